/- Contracts of Go functions that the claims of this seat share. -/
import Derived.Test.YtaoiamifofkklaaProg
import Derived.Below
import Derived.Deep.Draws
import Derived.Deep.AppendLies
import Derived.Maps.AppendAt
import Derived.OwnWalk
import Derived.Laws.BytesArg
import Derived.Laws.MakeOwn
import Derived.Laws.OwnMore
import Derived.Deep.OwnRows
import Derived.Tactics
import Derived.Lib.ConvBytes
import Derived.Laws.Slices
import Derived.WalkKit
import Derived.KernelRfl
import Derived.RowKit3
import Derived.Deep.LoopGhost
import Derived.Deep.QuietTactic
import Derived.BigQuiet
import Derived.WideLaws
import Derived.Deep.DeepCutAuto
import Derived.Deep.CutBlock
import Derived.Deep.RegionHeld3
import Derived.Laws.Rows
import Derived.Lib.AppendStr
import Derived.ArgAppend
import Derived.Laws.IdiomCopy
import Derived.OrdersHeld
import Derived.Laws.BitsLemmas
import Derived.RowKit
import Derived.Test.YtaoiamifofkklaaWWords
import Derived.Test.YtaoiamifofkklaaWLast
import Derived.Test.YtaoiamifofkklaaWTab
import Derived.Test.YtaoiamifofkklaaWFour
import Derived.Test.YtaoiamifofkklaaWQPut
import Derived.Test.YtaoiamifofkklaaWApart
import Derived.Test.YtaoiamifofkklaaWArr
import Derived.Test.YtaoiamifofkklaaWZeros
import Derived.Test.YtaoiamifofkklaaWFoot
import Derived.Test.YtaoiamifofkklaaWKept
import Derived.Test.YtaoiamifofkklaaWShare
import Derived.Test.YtaoiamifofkklaaWN
import Derived.Test.YtaoiamifofkklaaWFootNe
import Derived.Test.YtaoiamifofkklaaWAt
import Derived.Test.YtaoiamifofkklaaWEqStruct
import Derived.Test.YtaoiamifofkklaaWRepsOne
import Derived.Test.YtaoiamifofkklaaWInv
import Derived.Test.YtaoiamifofkklaaWInvWords
import Derived.Test.YtaoiamifofkklaaWGuard
import Derived.Test.YtaoiamifofkklaaWNEv
import Derived.Test.YtaoiamifofkklaaWMore
import Derived.Test.YtaoiamifofkklaaX0Mem
import Derived.Test.YtaoiamifofkklaaX1Pure
import Derived.Test.YtaoiamifofkklaaXBitsD
import Derived.Deep.RegionWith
namespace Go.Proofs.Ytaoiamifofkklaa.Obj
open Go.RowKit Go.Proofs.YtaoiamifofkklaaW.PrintWords Go.Proofs.YtaoiamifofkklaaW.PrintLast Go.Proofs.YtaoiamifofkklaaW.PrintMore
set_option linter.unusedVariables false
set_option linter.unusedSimpArgs false
def Rd (w : World) (base B : Nat) (v : Value) (bs : List Int) (at_ : Nat) : Prop :=
  base ≤ B ∧ w.heap[B]? = some (.cells #[v, .int .i64 ((8 * bs.length : Nat) : Int), .bool true, .int .i64 at_] 112 (0, 0)) ∧ Kd.R (Kd.int .u8) 5 w base (fun _ => True) v bs
theorem Rd.ne {w : World} {base B : Nat} {v : Value} {bs : List Int} {n : Nat} (h : Rd w base B v bs n) : some B ≠ v.ownBlock := by
  obtain ⟨inner, ho⟩ := Kd.R_own h.2.2
  exact own_ne ho h.2.1 (by decide)
theorem Rd.below {w w' : World} {base B : Nat} {v : Value} {bs : List Int} {n : Nat} (h : Rd w base B v bs n) (hb : Below w.heap.size w w') : Rd w' base B v bs n :=
  ⟨h.1, blk_below h.2.1 hb, Kd.R_below h.2.2 hb⟩
theorem Rd.drew {w : World} {base B : Nat} {v : Value} {bs : List Int} {n : Nat} (h : Rd w base B v bs n) : Rd w.drew base B v bs n := ⟨h.1, h.2.1, Kd.R_drew h.2.2⟩
theorem Rd.drewN {w : World} {base B : Nat} {v : Value} {bs : List Int} {n : Nat} (h : Rd w base B v bs n) (k : Nat) : Rd (w.drewN k) base B v bs n := ⟨h.1, h.2.1, Kd.R_drewN h.2.2 k⟩
theorem Rd.at {w : World} {base B : Nat} {v : Value} {bs : List Int} {n : Nat} (h : Rd w base B v bs n) (m : Nat) : Rd (w.setCell ⟨B, 3, none⟩ (.int .i64 m)) base B v bs m :=
  ⟨h.1, by have q := h.2.1; simp [World.setCell, Array.getElem?_modify, q], bt_set h.2.2 h.ne _ _⟩
theorem test_bit_w (y k : Nat) (h : y < 256) : Go.bits .and .u64 (IntKind.u64.wrap ((y : Int) / 2 ^ k)) 1 = bitI (y.testBit k) := by
  have hle : y / 2 ^ k ≤ y := Nat.div_le_self _ _
  have e : IntKind.u64.wrap ((y : Int) / 2 ^ k) = (y : Int) / 2 ^ k := by
    rw [x_wrap_u64']
    have e1 : (y : Int) / 2 ^ k = ((y / 2 ^ k : Nat) : Int) := by simp
    rw [e1]
    generalize y / 2 ^ k = q at hle ⊢
    omega
  rw [e, test_bit y k (by omega)]
theorem or_step_w (a : Nat) (b : Bool) (ha : a < 9223372036854775808) : Go.bits .or .u64 ((a : Int) * 2) (bitI b) = ((2 * a + b.toNat : Nat) : Int) := by
  rw [← or_step a b ha]; congr 1; omega
set_option maxHeartbeats 4000000 in
set_option maxRecDepth 100000 in
theorem bt_bit (B : Nat) (A : Option Addr) (len cap i : Nat) (bs : List Int) (w : World) (h0 : w.cell? ⟨B, 0, none⟩ = some (.slice A len cap)) (hC : Kd.C (Kd.int .u8) w A len bs) (hb : IsB bs) (hi : i / 8 < len) (hl : len ≤ 100000000000000000) :
    Calls Try.prog 78 #[.pointer (some ⟨B, 0, none⟩), .int .i64 i] w fun e w' => e = .returned (.int .u64 (bitI (bitB bs i))) ∧ w' = w := by
  have hu := Try.underlying103
  have hlen : bs.length = len := hC.1
  obtain ⟨ad, rfl, hc⟩ := (Kd.reads_of_C (enc := Value.int .u8) (d := (0 : Int)) (h1 := fun _ => rfl) hC).2.2 (by omega)
  have hx := hc (i / 8) hi
  have hy : 0 ≤ bs.getD (i / 8) 0 ∧ bs.getD (i / 8) 0 < 256 := by
    have := hb.get (i := i / 8) (by omega)
    rw [List.getD_eq_getElem?_getD, List.getElem?_eq_getElem (show i / 8 < bs.length by omega)]
    exact this
  have hbit : bitB bs i = (bs.getD (i / 8) 0).toNat.testBit (7 - i % 8) := rfl
  rw [hbit]
  obtain ⟨y, hye⟩ : ∃ y, bs.getD (i / 8) 0 = y := ⟨_, rfl⟩
  rw [hye] at hx hy ⊢
  obtain ⟨y, rfl⟩ : ∃ q : Nat, y = (q : Int) := ⟨y.toNat, by omega⟩
  rw [Int.toNat_natCast]
  have ht := Aside0.mk (test_bit_w y (7 - i % 8) (by omega))
  have t8 : ((i : Int) / 8).toNat = i / 8 := by omega
  have m8 : (7 - (i : Int) % 8).toNat = 7 - i % 8 := by omega
  have b8 : (i : Int) / 8 < (len : Int) := by omega
  clear hc hC hb hbit hye hlen
  go_enter Try.func78, Try.ntmps78
  go_wp2
  go_ret
  exact ⟨by rw [← ht.out]; rfl, rfl⟩
set_option maxHeartbeats 4000000 in
set_option maxRecDepth 100000 in
theorem bt_left (B base : Nat) (v : Value) (bs : List Int) (at_ : Nat) (w : World) (h : Rd w base B v bs at_) (hl : bs.length ≤ 100000000000000000) (ha : at_ ≤ 8 * bs.length) :
    Calls Try.prog 76 #[.pointer (some ⟨B, 0, none⟩)] w fun e w' => e = .returned (.int .i64 ((8 * bs.length - at_ : Nat) : Int)) ∧ Drawn0 w w' := by
  have hu := Try.underlying103
  have hu2 := Try.underlying112
  have g1 := (blk_cell h.2.1 1).trans rfl
  have g3 := (blk_cell h.2.1 3).trans rfl
  obtain ⟨n, hn⟩ : ∃ n, 8 * bs.length = n := ⟨_, rfl⟩
  rw [hn] at g1 ha ⊢
  have hnl : n ≤ 1000000000000000000 := by omega
  clear h hn
  go_enter Try.func76, Try.ntmps76
  go_wp2
  go_quiet (fail)
  go_wp2
  go_ret
  exact ⟨by rw [show ((n - at_ : Nat) : Int) = (n : Int) - at_ by omega]; rfl, ⟨⟨_, rfl⟩⟩⟩
set_option maxHeartbeats 4000000 in
set_option maxRecDepth 100000 in
theorem bt_take (B base : Nat) (v : Value) (bs : List Int) (at_ wd : Nat) (w : World) (h : Rd w base B v bs at_) (hb : IsB bs) (hl : bs.length ≤ 100000000000000000) (ha : at_ + wd ≤ 8 * bs.length) (hw : wd ≤ 64) :
    Calls Try.prog 77 #[.pointer (some ⟨B, 0, none⟩), .int .i64 wd] w fun e w' => e = .returned (.int .u64 (numB bs at_ wd)) ∧ Rd w' base B v bs (at_ + wd) ∧ KeepBut w w' B none ∧ Below base w w' := by
  have hu := Try.underlying103
  have hu2 := Try.underlying112
  have HR := Aside0.mk h
  have HB := Aside0.mk hb
  clear h hb
  go_enter Try.func77, Try.ntmps77
  go_wp2
  go_loopw [5, 7] (fun v5 v7 wr => ∃ i : Nat, i ≤ wd ∧ v7 = .int .i64 i ∧ v5 = .int .u64 (numB bs at_ i) ∧ Aside0 (Rd wr base B v bs (at_ + i)) ∧ Aside0 (KeepBut w wr B none) ∧ Aside0 (Below base w wr)) (fun _ v7 _ => wd - (intOf v7).toNat)
  case atStart => exact ⟨0, Nat.zero_le _, rfl, rfl, HR, ⟨KeepBut.refl _ _ _⟩, ⟨Below.refl _ _⟩⟩
  case round =>
    obtain ⟨i, hi, rfl, rfl, KR, KK, KB⟩ := hrel
    by_cases hlt : i < wd
    · obtain ⟨A0, cap, hv, hlc, hC⟩ := Kd.R_reads KR.out.2.2
      subst hv
      have g0 := (blk_cell KR.out.2.1 0).trans rfl
      have g3 := (blk_cell KR.out.2.1 3).trans rfl
      have f3 := blk_frozen KR.out.2.1 3
      have hbt0 := bt_bit B A0 bs.length cap (at_ + i) bs wr.drew g0 (Kd.C_below hC (below_drew (Below.refl _ _))) HB.out (by omega) hl
      rw [Int.natCast_add] at hbt0
      have hbt := Aside0.mk hbt0
      have hnum := numB_lt bs at_ i
      have hpow : 2 ^ i ≤ 2 ^ 63 := Nat.pow_le_pow_right (by omega) (by omega)
      obtain ⟨b, hbb⟩ : ∃ b, bitB bs (at_ + i) = b := ⟨_, rfl⟩
      have hns : numB bs at_ (i + 1) = 2 * numB bs at_ i + b.toNat := by simp only [numB]; rw [hbb]
      have hos := or_step_w (numB bs at_ i) b (by omega)
      obtain ⟨acc, hacc⟩ : ∃ acc, numB bs at_ i = acc := ⟨_, rfl⟩
      rw [hacc] at hns hos hnum ⊢
      rw [hbb] at hbt
      have HNS := Aside0.mk hns
      have HOS := Aside0.mk hos
      have hac : acc < 9223372036854775808 := by omega
      clear hC hnum hpow hbb hns hos hacc hbt0
      go_wp2
      go_region_with (go_at_call 78; refine hbt.out.mono ?_; rintro e w2 ⟨rfl, rfl⟩)
      go_wp2
      go_roundw
      case rel =>
        refine ⟨i + 1, by omega, by simp, by rw [HOS.out, HNS.out], ⟨?_⟩, ⟨?_⟩, ⟨?_⟩⟩
        · have q := KR.out.drew.at (at_ + i + 1)
          rw [Int.natCast_add, Int.natCast_add] at q
          exact q
        · exact (KeepBut.set_ (w1 := wr.drew) KK.out 3 _)
        · exact (KB.out.drew).setCell (p := ⟨B, 3, none⟩) HR.out.1 _
      case measure => simp [intOf]; omega
    · obtain rfl : i = wd := by omega
      go_wp2
      go_ret
      exact ⟨rfl, KR.out, KK.out, KB.out⟩
end Go.Proofs.Ytaoiamifofkklaa.Obj
