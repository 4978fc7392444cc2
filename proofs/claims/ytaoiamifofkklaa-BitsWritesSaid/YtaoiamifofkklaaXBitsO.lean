/- Contracts of Go functions that the claims of this seat share. -/
import Derived.Test.YtaoiamifofkklaaProg
import Derived.Below
import Derived.Deep.Draws
import Derived.Deep.AppendLies
import Derived.Maps.AppendAt
import Derived.OwnWalk
import Derived.Laws.BytesArg
import Derived.Laws.MakeOwn
import Derived.Laws.OwnMore
import Derived.Deep.OwnRows
import Derived.Tactics
import Derived.Lib.ConvBytes
import Derived.Laws.Slices
import Derived.WalkKit
import Derived.KernelRfl
import Derived.RowKit3
import Derived.Deep.LoopGhost
import Derived.Deep.QuietTactic
import Derived.BigQuiet
import Derived.WideLaws
import Derived.Deep.DeepCutAuto
import Derived.Deep.CutBlock
import Derived.Deep.RegionHeld3
import Derived.Laws.Rows
import Derived.Lib.AppendStr
import Derived.ArgAppend
import Derived.Laws.IdiomCopy
import Derived.OrdersHeld
import Derived.Laws.BitsLemmas
import Derived.RowKit
import Derived.Test.YtaoiamifofkklaaWWords
import Derived.Test.YtaoiamifofkklaaWLast
import Derived.Test.YtaoiamifofkklaaWTab
import Derived.Test.YtaoiamifofkklaaWFour
import Derived.Test.YtaoiamifofkklaaWQPut
import Derived.Test.YtaoiamifofkklaaWApart
import Derived.Test.YtaoiamifofkklaaWArr
import Derived.Test.YtaoiamifofkklaaWZeros
import Derived.Test.YtaoiamifofkklaaWFoot
import Derived.Test.YtaoiamifofkklaaWKept
import Derived.Test.YtaoiamifofkklaaWShare
import Derived.Test.YtaoiamifofkklaaWN
import Derived.Test.YtaoiamifofkklaaWFootNe
import Derived.Test.YtaoiamifofkklaaWAt
import Derived.Test.YtaoiamifofkklaaWEqStruct
import Derived.Test.YtaoiamifofkklaaWRepsOne
import Derived.Test.YtaoiamifofkklaaWInv
import Derived.Test.YtaoiamifofkklaaWInvWords
import Derived.Test.YtaoiamifofkklaaWGuard
import Derived.Test.YtaoiamifofkklaaWNEv
import Derived.Test.YtaoiamifofkklaaWMore
import Derived.Test.YtaoiamifofkklaaX0Mem
import Derived.Test.YtaoiamifofkklaaX1Pure
import Derived.Test.YtaoiamifofkklaaXBitsN
namespace Go.Proofs.Ytaoiamifofkklaa.Obj
open Go.RowKit Go.Proofs.YtaoiamifofkklaaW.PrintWords Go.Proofs.YtaoiamifofkklaaW.PrintLast Go.Proofs.YtaoiamifofkklaaW.PrintMore
set_option linter.unusedVariables false
set_option linter.unusedSimpArgs false
set_option maxHeartbeats 8000000 in
set_option maxRecDepth 100000 in
theorem rv_done (B base : Nat) (v : Value) (l : List Bool) (w : World) (h : Wv w base B v l) (hl : l.length ≤ 8192) :
    Calls Try.prog 21 #[.pointer (some ⟨B, 0, none⟩)] w fun e w' => ∃ v', e = .returned v' ∧ Kd.R (Kd.int .u8) 5 w' w.heap.size (fun _ => True) v' (pack l) ∧ Below w.heap.size w w' := by
  have hu := Try.underlying30
  obtain ⟨A0, cap, rfl, hlc, hC⟩ := Kd.R_reads h.2.2
  have g0 := (blk_cell h.2.1 0).trans rfl
  have HH := Aside0.mk h.2.1
  obtain ⟨ll, hll⟩ : ∃ ll, l.length = ll := ⟨_, rfl⟩
  rw [hll] at g0 hl hC HH
  have HC := Aside0.mk hC
  have HLL := Aside0.mk hll
  obtain ⟨q, hq⟩ : ∃ q, (ll + 7) / 8 = q := ⟨_, rfl⟩
  have HQ := Aside0.mk hq
  have hqi : ((ll : Int) + 7) / 8 = (q : Int) := by omega
  have hq2 : q ≤ 2000 := by omega
  clear h hC hlc hll hq
  go_enter Try.func21, Try.ntmps21
  go_wp2_with (at_make; refine x_makecap .u8 _ 5 rfl (N := 12) rfl 36 _ _ rfl _ _ rfl rfl Try.underlying36 1 bt_info (by decide) (by omega) (by omega) (by omega) (Below.refl _ _) (Nat.le_refl _) ?_; intro v1 w2 ho1 hb1 hg1 hn1; rw [hqi, Int.toNat_natCast] at ho1; obtain ⟨A1, c1, rfl⟩ := Kd.R_slice ho1; rw [List.length_replicate] at ho1 ⊢; have HO := Aside0.mk ho1; have HB1 := Aside0.mk hb1; clear ho1 hb1 hg1 hn1 hqi g0)
  go_loopw [4] (fun v4 wr => ∃ i : Nat, i ≤ ll ∧ v4 = .int .i64 i ∧ ∃ U, Aside0 (Part l i U) ∧ Aside0 (Kd.R (Kd.int .u8) 5 wr w.heap.size (fun _ => True) (.slice A1 q c1) U) ∧ Aside0 (Below w.heap.size w wr)) (fun v4 _ => ll - (intOf v4).toNat)
  case atStart => exact ⟨0, Nat.zero_le _, rfl, List.replicate q 0, ⟨part_zero l q (by rw [HLL.out]; exact HQ.out.symm)⟩, HO, HB1⟩
  case round =>
    clear HO HB1
    obtain ⟨i, hi, rfl, U, KP, KO, KB⟩ := hrel
    have g0 := (blk_cell (blk_below HH.out KB.out) 0).trans rfl
    by_cases hlt : i < ll
    · obtain ⟨ad, rfl, hc⟩ := (Kd.reads_of_C (enc := Value.bool) (d := false) (h1 := fun _ => rfl) (Kd.C_below HC.out KB.out)).2.2 (by omega)
      have x0 := hc i hlt
      have hUl : U.length = q := by rw [KP.out.1, HLL.out]; exact HQ.out
      have hq0 : 0 < q := by have := HQ.out; omega
      have hi8 : i / 8 < q := by have := HQ.out; omega
      obtain ⟨b, hb⟩ : ∃ b, l.getD i false = b := ⟨_, rfl⟩
      rw [hb] at x0
      cases b with
      | false =>
        have HPN := Aside0.mk (part_skip KP.out hb)
        clear hc hb hUl
        go_wp2
        go_roundw
        case rel => exact ⟨i + 1, by omega, by simp, U, HPN, KO, KB⟩
        case measure => simp [intOf]; omega
      | true =>
        have HPN := Aside0.mk (part_set KP.out (by rw [HLL.out]; exact hlt) hb)
        obtain ⟨g, c2, heq, _⟩ := Kd.R_form KO.out (by rw [hUl]; exact hq0)
        cases heq
        obtain ⟨y0, yf⟩ := Kd.R_celln (0 : Int) KO.out ((i / 8 : Nat) : Int) (by omega) (by omega)
        rw [Int.toNat_natCast] at y0 yf
        have hy : rdOf 0 U ((i / 8 : Nat) : Int) = U.getD (i / 8) 0 := by
          show U.getD ((i / 8 : Nat) : Int).toNat 0 = _
          rw [Int.toNat_natCast]
        obtain ⟨y, hy2⟩ : ∃ y, U.getD (i / 8) 0 = y := ⟨_, rfl⟩
        rw [hy, hy2] at y0
        have hp1 : push1 U i 1 = U.set (i / 8) (Go.bits .or .u8 y (2 ^ (7 - i % 8) % 256)) := by unfold push1; rw [hy2, Int.one_mul]
        have hgb : w.heap.size ≤ g := by
          obtain ⟨inner, ho⟩ := Kd.R_own KO.out
          exact own_base ho g (by simp [Value.ownBlock])
        have HGB := Aside0.mk hgb
        have HP1 := Aside0.mk hp1
        have t8 : ((i : Int) / 8).toNat = i / 8 := by omega
        have m8 : (7 - (i : Int) % 8).toNat = 7 - i % 8 := by omega
        have b8 : (i : Int) / 8 < (U.length : Int) := by omega
        clear hc hb hUl hy hy2 hp1 hgb
        go_wp2
        go_region
        have hput := Kd.R_putn KO.out ((i / 8 : Nat) : Int) (Go.bits .or .u8 y (2 ^ (7 - i % 8) % 256))
        rw [Int.toNat_natCast] at hput
        have HPUT := Aside0.mk (Kd.R_drew hput)
        have HB3 := Aside0.mk ((KB.out.setCell (p := ⟨g, i / 8, none⟩) HGB.out (.int .u8 (Go.bits .or .u8 y (2 ^ (7 - i % 8) % 256)))).drew)
        clear hput
        go_wp2
        go_roundw
        case rel => exact ⟨i + 1, by omega, by simp, push1 U i 1, HPN, ⟨by rw [HP1.out]; exact HPUT.out⟩, HB3⟩
        case measure => simp [intOf]; omega
    · obtain rfl : i = ll := by omega
      go_wp2
      go_ret
      refine ⟨_, rfl, ?_, KB.out⟩
      have hpe := part_end (l := l) (U := U) (by rw [HLL.out]; exact KP.out)
      rw [← hpe]; exact KO.out
end Go.Proofs.Ytaoiamifofkklaa.Obj
