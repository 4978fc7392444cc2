/- Contracts of Go functions that the claims of this seat share. -/
import Derived.Test.YtaoiamifofkklaaProg
import Derived.Below
import Derived.Deep.Draws
import Derived.Deep.AppendLies
import Derived.Maps.AppendAt
import Derived.OwnWalk
import Derived.Laws.BytesArg
import Derived.Laws.MakeOwn
import Derived.Laws.OwnMore
import Derived.Deep.OwnRows
import Derived.Tactics
import Derived.Lib.ConvBytes
import Derived.Laws.Slices
import Derived.WalkKit
import Derived.KernelRfl
import Derived.RowKit3
import Derived.Deep.LoopGhost
import Derived.Deep.QuietTactic
import Derived.BigQuiet
import Derived.WideLaws
import Derived.Deep.DeepCutAuto
import Derived.Deep.CutBlock
import Derived.Deep.RegionHeld3
import Derived.Laws.Rows
import Derived.Lib.AppendStr
import Derived.ArgAppend
import Derived.Laws.IdiomCopy
import Derived.OrdersHeld
import Derived.Laws.BitsLemmas
import Derived.RowKit
import Derived.Test.YtaoiamifofkklaaWWords
import Derived.Test.YtaoiamifofkklaaWLast
import Derived.Test.YtaoiamifofkklaaWTab
import Derived.Test.YtaoiamifofkklaaWFour
import Derived.Test.YtaoiamifofkklaaWQPut
import Derived.Test.YtaoiamifofkklaaWApart
import Derived.Test.YtaoiamifofkklaaWArr
import Derived.Test.YtaoiamifofkklaaWZeros
import Derived.Test.YtaoiamifofkklaaWFoot
import Derived.Test.YtaoiamifofkklaaWKept
import Derived.Test.YtaoiamifofkklaaWShare
import Derived.Test.YtaoiamifofkklaaWN
import Derived.Test.YtaoiamifofkklaaWFootNe
import Derived.Test.YtaoiamifofkklaaWAt
import Derived.Test.YtaoiamifofkklaaWEqStruct
import Derived.Test.YtaoiamifofkklaaWRepsOne
import Derived.Test.YtaoiamifofkklaaWInv
import Derived.Test.YtaoiamifofkklaaWInvWords
import Derived.Test.YtaoiamifofkklaaWGuard
import Derived.Test.YtaoiamifofkklaaWNEv
import Derived.Test.YtaoiamifofkklaaWMore
import Derived.Test.YtaoiamifofkklaaX0Mem
import Derived.Test.YtaoiamifofkklaaX1Pure
import Derived.Test.YtaoiamifofkklaaXBitsF
namespace Go.Proofs.Ytaoiamifofkklaa.Obj
open Go.RowKit Go.Proofs.YtaoiamifofkklaaW.PrintWords Go.Proofs.YtaoiamifofkklaaW.PrintLast Go.Proofs.YtaoiamifofkklaaW.PrintMore
set_option linter.unusedVariables false
set_option linter.unusedSimpArgs false
theorem bt_put_i (B base : Nat) (v : Value) (l : List Bool) (x y : Int) (n wd : Nat) (w : World) (ex : x = (n : Int)) (ey : y = (wd : Int)) (h : WrL w base B v l) (hw : wd ≤ 64) (hn : n < 18446744073709551616) (hz : wd < 64 → n / 2 ^ wd = 0) (hl : l.length + wd ≤ 8192) :
    Calls Try.prog 15 #[.pointer (some ⟨B, 0, none⟩), .int .u64 x, .int .i64 y] w fun e w' => ∃ v', e = .returned (.int .i64 0) ∧ WrL w' base B v' (l ++ bitsOf n wd) ∧ Mv B v w v' w' ∧ Below base w w' := by
  subst ex; subst ey
  exact bt_put B base v l n wd w h hw hn hz hl
set_option maxHeartbeats 4000000 in
set_option maxRecDepth 100000 in
theorem bt_awake (w : World) : Calls Try.prog 22 #[] w fun e w' => e = .returned (.bool true) ∧ Below w.heap.size w w' := by
  have hu := Try.underlying105
  go_enter Try.func22, Try.ntmps22
  go_wp2_with (first
    | (go_at_call 14; refine (bt_new _).mono ?_; rintro e w1 ⟨B, rfl, hW, hb, _⟩; have hh := hW.2.1; have HW := Aside0.mk hW; have HB := Aside0.mk hb; clear hW hb)
    | (go_at_call 15; (with_reducible refine (bt_put_i B _ _ [] 5 3 5 3 _ rfl rfl HW.out (by decide) (by decide) (by decide) (by decide)).mono ?_); rintro e w2 ⟨v2, rfl, hW2, _, hb2⟩; have HW2 := Aside0.mk hW2; have HB2 := Aside0.mk (HB.out.trans hb2); clear hW2 hb2)
    | (go_at_call 19; refine (bt_len B _ v2 _ _ HW2.out).mono ?_; rintro e w3 ⟨rfl, rfl⟩))
  go_ret
  exact ⟨rfl, HB2.out⟩
theorem Drawn0.belowK {B : Nat} {w w' : World} (h : Drawn0 w w') : Below B w w' := by
  obtain ⟨n, rfl⟩ := h.out
  exact pw_below_drewN (Below.refl _ _) n
set_option maxHeartbeats 4000000 in
set_option maxRecDepth 100000 in
theorem bt_get (B base : Nat) (v : Value) (bs : List Int) (at_ wd : Nat) (w : World) (h : Rd w base B v bs at_) (hb : IsB bs) (hl : bs.length ≤ 100000000000000000) (ha : at_ + wd ≤ 8 * bs.length) (hw : wd ≤ 64) :
    Calls Try.prog 38 #[.pointer (some ⟨B, 0, none⟩), .int .i64 wd] w fun e w' => e = .returned (.tuple #[.int .u64 (numB bs at_ wd), .int .i64 0]) ∧ Rd w' base B v bs (at_ + wd) ∧ Kept w w' (fun k => k = B) ∧ Below base w w' := by
  have hu := Try.underlying112
  have hu2 := Try.underlying103
  have g2 := (blk_cell h.2.1 2).trans rfl
  have HN := Aside0.mk (bt_none B w g2)
  have HLE := Aside0.mk (bt_left B base v bs at_ w h hl (by omega))
  have HT := Aside0.mk (fun (n : Nat) => bt_take B base v bs at_ wd (w.drewN n) (h.drewN n) hb hl ha hw)
  have hle : wd ≤ 8 * bs.length - at_ := by omega
  obtain ⟨m, hm⟩ : ∃ m, 8 * bs.length - at_ = m := ⟨_, rfl⟩
  rw [hm] at HLE hle
  clear h hb hm ha
  go_enter Try.func38, Try.ntmps38
  go_wp2_with (first
    | (go_at_call 67; refine HN.out.mono ?_; rintro e w1 ⟨rfl, hw1⟩; obtain rfl : w = w1 := hw1.symm)
    | (go_at_call 76; refine HLE.out.mono ?_; rintro e w1 ⟨rfl, ⟨⟨nd, rfl⟩⟩⟩)
    | (go_at_call 77; refine (HT.out nd).mono ?_; rintro e w2 ⟨rfl, hR2, hK2, hB2⟩; have HR2 := Aside0.mk hR2; have HK2 := Aside0.mk hK2; have HB2 := Aside0.mk hB2; clear hR2 hK2 hB2))
  go_ret2
  exact ⟨rfl, HR2.out, keptB HK2.out, (pw_below_drewN (Below.refl _ _) nd).trans HB2.out⟩
set_option maxHeartbeats 4000000 in
set_option maxRecDepth 100000 in
theorem bt_end (B base : Nat) (v : Value) (bs : List Int) (at_ : Nat) (w : World) (h : Rd w base B v bs at_) (hb : IsB bs) (hl : bs.length ≤ 100000000000000000) (ha : at_ ≤ 8 * bs.length) (hs : 8 * bs.length - at_ < 8) (hz : ∀ i, at_ ≤ i → bitB bs i = false) :
    Calls Try.prog 39 #[.pointer (some ⟨B, 0, none⟩)] w fun e w' => e = .returned (.int .i64 0) ∧ Drawn0 w w' := by
  have hu := Try.underlying112
  have hu2 := Try.underlying103
  have g2 := (blk_cell h.2.1 2).trans rfl
  obtain ⟨A0, cap, rfl, hlc, hC⟩ := Kd.R_reads h.2.2
  have HN := Aside0.mk (bt_none B w g2)
  have HLE := Aside0.mk (bt_left B base _ bs at_ w h hl (by omega))
  have g0 := (blk_cell h.2.1 0).trans rfl
  have g1 := (blk_cell h.2.1 1).trans rfl
  have g3 := (blk_cell h.2.1 3).trans rfl
  obtain ⟨n, hn⟩ : ∃ n, 8 * bs.length = n := ⟨_, rfl⟩
  have hn8 : n ≤ 1000000000000000000 := by omega
  have HBIT := Aside0.mk (fun (q i : Nat) (hi : i < n) => bt_bit B A0 bs.length cap i bs (w.drewN q) g0 (Kd.C_below hC (pw_below_drewN (Below.refl _ _) q)) hb (by omega) hl)
  have HZ := Aside0.mk hz
  rw [hn] at HLE hs g1 ha
  obtain ⟨m, hm⟩ : ∃ m, n - at_ = m := ⟨_, rfl⟩
  rw [hm] at HLE hs
  clear h hb hn hm hC hz hlc
  go_enter Try.func39, Try.ntmps39
  go_wp2_with (first
    | (go_at_call 67; refine HN.out.mono ?_; rintro e w1 ⟨rfl, hw1⟩; obtain rfl : w = w1 := hw1.symm)
    | (go_at_call 76; refine HLE.out.mono ?_; rintro e w1 ⟨rfl, ⟨⟨nd, rfl⟩⟩⟩))
  go_loop [3] (fun v3 => ∃ i : Nat, at_ ≤ i ∧ i ≤ n ∧ v3 = .int .i64 i) (fun v3 => n - (intOf v3).toNat)
  case atStart => exact ⟨at_, Nat.le_refl _, by omega, rfl⟩
  case round =>
    obtain ⟨i, hi0, hi, rfl⟩ := hrel
    by_cases hlt : i < n
    · have hb := HBIT.out nd i hlt
      rw [HZ.out i hi0] at hb
      have HBI := Aside0.mk hb
      clear hb
      go_wp2_with (go_at_call 78; refine HBI.out.mono ?_; rintro e w1 ⟨rfl, hw1⟩; subst hw1; unfold bitI; simp only [Bool.false_eq_true, if_false])
      go_round
      case rel => exact ⟨i + 1, by omega, by omega, by simp⟩
      case measure => simp [intOf]; omega
    · obtain rfl : i = n := by omega
      go_wp2
      go_ret
      exact ⟨rfl, ⟨⟨_, rfl⟩⟩⟩
end Go.Proofs.Ytaoiamifofkklaa.Obj
