/- Contracts of Go functions that the claims of this seat share. -/
import Derived.Test.YtaoiamifofkklaaProg
import Derived.Below
import Derived.Deep.Draws
import Derived.Deep.AppendLies
import Derived.Maps.AppendAt
import Derived.OwnWalk
import Derived.Laws.BytesArg
import Derived.Laws.MakeOwn
import Derived.Laws.OwnMore
import Derived.Deep.OwnRows
import Derived.Tactics
import Derived.Lib.ConvBytes
import Derived.Laws.Slices
import Derived.WalkKit
import Derived.KernelRfl
import Derived.RowKit3
import Derived.Deep.LoopGhost
import Derived.Deep.QuietTactic
import Derived.BigQuiet
import Derived.WideLaws
import Derived.Deep.DeepCutAuto
import Derived.Deep.CutBlock
import Derived.Deep.RegionHeld3
import Derived.Laws.Rows
import Derived.Lib.AppendStr
import Derived.ArgAppend
import Derived.Laws.IdiomCopy
import Derived.OrdersHeld
import Derived.Laws.BitsLemmas
import Derived.RowKit
import Derived.Lib.OthersKept
import Derived.Test.YtaoiamifofkklaaWWords
import Derived.Test.YtaoiamifofkklaaWLast
import Derived.Test.YtaoiamifofkklaaWTab
import Derived.Test.YtaoiamifofkklaaWFour
import Derived.Test.YtaoiamifofkklaaWQPut
import Derived.Test.YtaoiamifofkklaaWApart
import Derived.Test.YtaoiamifofkklaaWArr
import Derived.Test.YtaoiamifofkklaaWZeros
import Derived.Test.YtaoiamifofkklaaWFoot
import Derived.Test.YtaoiamifofkklaaWKept
import Derived.Test.YtaoiamifofkklaaWShare
import Derived.Test.YtaoiamifofkklaaWN
import Derived.Test.YtaoiamifofkklaaWFootNe
import Derived.Test.YtaoiamifofkklaaWAt
import Derived.Test.YtaoiamifofkklaaWEqStruct
import Derived.Test.YtaoiamifofkklaaWRepsOne
import Derived.Test.YtaoiamifofkklaaWInv
import Derived.Test.YtaoiamifofkklaaWInvWords
import Derived.Test.YtaoiamifofkklaaWGuard
import Derived.Test.YtaoiamifofkklaaWNEv
import Derived.Test.YtaoiamifofkklaaWMore
import Derived.Test.YtaoiamifofkklaaX0Mem
import Derived.Test.YtaoiamifofkklaaX1Pure
import Derived.Test.YtaoiamifofkklaaXShaE
namespace Go.Proofs.Ytaoiamifofkklaa.Obj
open Go.RowKit Go.Proofs.YtaoiamifofkklaaW.PrintWords Go.Proofs.YtaoiamifofkklaaW.PrintLast Go.Proofs.YtaoiamifofkklaaW.PrintMore
set_option linter.unusedVariables false
set_option linter.unusedSimpArgs false
open Go.Proofs.Ytaoiamifofkklaa.PShaH
def padK (n : Nat) : Nat := (119 - n % 64) % 64
def padL (l : List Int) : List Int := (l ++ [128]) ++ List.replicate (padK l.length) 0
theorem padK_at (n : Nat) : (n + 1 + padK n) % 64 = 56 ∧ ∀ k, k < padK n → (n + 1 + k) % 64 ≠ 56 := by
  unfold padK
  refine ⟨by omega, fun k hk => by omega⟩
theorem padK_lt (n : Nat) : padK n < 64 := by unfold padK; omega
theorem padL_len (l : List Int) : (padL l).length = l.length + 1 + padK l.length := by unfold padL; simp; omega
theorem sh_putlong (A : Option Addr) (L c : Nat) (l : List Int) (a : Int) (w : World) (hC : Kd.C (Kd.int .u8) w A L l) (hc : L ≤ c) (hl : L ≤ 2000000) :
    Calls Try.prog 110 #[.slice A L c, .int .u64 a] w fun e w' => ∃ v, e = .returned v ∧ Kd.R (Kd.int .u8) 5 w' w.heap.size (fun _ => True) v (l ++ bytesBE 8 a) ∧ Below w.heap.size w w' := by
  have h1 := hC.1
  have h := word_PutLong.calls 30 A c l a _ w (by rw [h1]; exact hC) (by rw [h1]; exact hc) (putlong_is l a 30 (by omega) (by omega))
  rw [h1] at h
  exact h
set_option maxHeartbeats 8000000 in
set_option maxRecDepth 100000 in
theorem sh_filled (D base : Nat) (v : Value) (s : W8) (left : List Int) (n : Nat) (w : World) (h : Dg w base D v s left n) (hl : left.length < 64) (hn : n ≤ 1048576) :
    Calls Try.prog 104 #[.pointer (some ⟨D, 0, none⟩)] w fun e w' => ∃ v', e = .returned v' ∧ Kd.R (Kd.int .u8) 5 w' w.heap.size (fun _ => True) v' (padL left ++ bytesBE 8 (8 * n)) ∧ Below w.heap.size w w' := by
  have hu := Try.underlying141
  obtain ⟨A, c, rfl, hlc, hC⟩ := h.2.2.reads
  obtain ⟨z, hz⟩ : ∃ z, left.length = z := ⟨_, rfl⟩
  rw [hz] at hl hlc hC h
  have g8 := (dg_cell h 8).trans rfl
  have g9 := (dg_cell h 9).trans rfl
  have H := Aside0.mk h
  have HC := Aside0.mk hC
  have HN := Aside0.mk hn
  have HLL := Aside0.mk hl
  have HZ0 := Aside0.mk hz
  clear h hlc hC hz
  go_enter Try.func104, Try.ntmps104
  go_wp2_with (first
    | ((with_reducible refine gate_dst (N := 8) rfl ?_); (refine x_append .u8 w.heap.size rfl (.const (.slice none 0 0)) (.tmp 7) 36 5 1 rfl Try.underlying36 dg_info (by decide) (.slice none 0 0) [] left A z c rfl rfl (Kd.R_nil _ _ _ _ _) HC.out (Below.refl _ w) (Nat.le_refl _) (by simp; have h1 := HLL.out; omega) ?_); intro v2 W2 ho2 hb2 hg2 hn2; rw [List.nil_append] at ho2; have HO2 := Aside0.mk ho2; have HB2 := Aside0.mk hb2; have g9' := (dg_cell (H.out.below hb2) 9).trans rfl; clear ho2 hb2 hg2 hn2 g8 g9)
    | ((with_reducible refine gate_dst (N := 10) rfl ?_); (refine x_append .u8 w.heap.size rfl (.tmp 8) (.tmp 9) 36 5 1 rfl Try.underlying36 dg_info (by decide) v2 left [128] (some ⟨W2.heap.size, 0, none⟩) 1 1 rfl rfl (Kd.R_below HO2.out (below_alloc (Below.refl _ _) _)) (x_lit_C .u8 W2 5 [128] (by simp)) (HB2.out.alloc HB2.out.size _) (by simp; have h1 := HB2.out.size; omega) (by have h1 := HLL.out; have h2 := HZ0.out; omega) ?_); intro v3 W3 ho3 hb3 hg3 hn3; have HO3 := Aside0.mk ho3; have HB3 := Aside0.mk hb3; clear ho3 hb3 hg3 hn3))
  obtain ⟨A3, c3, rfl⟩ := Kd.R_slice HO3.out
  obtain ⟨L0, hL0⟩ : ∃ L, (left ++ [128]).length = L := ⟨_, rfl⟩
  have HL0 : Aside0 (L0 = z + 1 + 0) := ⟨by rw [← hL0, List.length_append, HZ0.out]; rfl⟩
  rw [hL0] at HO3
  rw [hL0]
  have HO3' : Aside0 (Kd.R (Kd.int .u8) 5 W3 w.heap.size (fun _ => True) (.slice A3 L0 c3) ((left ++ [128]) ++ List.replicate 0 0)) := ⟨by simpa using HO3.out⟩
  clear HO3 hL0 HO2 HB2 g9'
  go_loopw [3] (fun v3 wr => ∃ (k L : Nat) (A' : Option Addr) (c' : Nat), k ≤ padK z ∧ Aside0 (L = z + 1 + k) ∧ v3 = .slice A' L c' ∧ Aside0 (Kd.R (Kd.int .u8) 5 wr w.heap.size (fun _ => True) (.slice A' L c') ((left ++ [128]) ++ List.replicate k 0)) ∧ Aside0 (Below w.heap.size w wr)) (fun v3 _ => match v3 with | .slice _ len _ => z + 1 + padK z - len | _ => 0)
  case atStart => exact ⟨0, L0, A3, c3, Nat.zero_le _, HL0, rfl, HO3', HB3⟩
  case round =>
    clear HO3' HB3
    obtain ⟨k, L, A', c', hk, KL, rfl, KO, KB⟩ := hrel
    have hL := KL.out.symm
    clear HL0
    have hp := padK_at z
    have hpl := padK_lt z
    by_cases hlt : k < padK z
    · have h1 := hp.2 k hlt
      rw [hL] at h1
      have b1 : ((L : Int) % 64 == 56) = false := by
        rw [beq_eq_false_iff_ne]; omega
      have b2 : ((L : Int) % 64 != 56) = true := by
        rw [bne_iff_ne]; omega
      have b3 : ¬ ((L : Int) % 64 = 56) := by omega
      have HLB : Aside0 (L ≤ 200) := ⟨by omega⟩
      have HL := Aside0.mk hL
      have hll : ((left ++ [128]) ++ List.replicate k (0 : Int)).length = L := by
        rw [List.length_append, List.length_append, HZ0.out, List.length_replicate, ← hL]; rfl
      have HLL2 := Aside0.mk hll
      clear h1 hp hL hll
      go_wp2_with ((with_reducible refine gate_dst (N := 17) rfl ?_); (refine x_append .u8 w.heap.size rfl (.tmp 15) (.tmp 16) 36 5 1 rfl Try.underlying36 dg_info (by decide) (.slice A' L c') ((left ++ [128]) ++ List.replicate k 0) [0] (some ⟨wr.heap.size, 0, none⟩) 1 1 rfl rfl (Kd.R_below KO.out (below_alloc (Below.refl _ _) _)) (x_lit_C .u8 wr 5 [0] (by simp)) (KB.out.alloc KB.out.size _) (by simp; have h1 := KB.out.size; omega) (by rw [HLL2.out]; have := HLB.out; omega) ?_); intro v4 W4 ho4 hb4 hg4 hn4; have HO4 := Aside0.mk ho4; have HB4 := Aside0.mk hb4; clear ho4 hb4 hg4 hn4)
      have ho4 := HO4.out
      rw [List.append_assoc, ← List.replicate_succ'] at ho4
      obtain ⟨A5, c5, rfl⟩ := Kd.R_slice ho4
      have hl5 : ((left ++ [128]) ++ List.replicate (k + 1) (0 : Int)).length = z + 1 + (k + 1) := by
        rw [List.length_append, List.length_append, HZ0.out, List.length_replicate]; rfl
      obtain ⟨L5, hL5⟩ : ∃ L, ((left ++ [128]) ++ List.replicate (k + 1) (0 : Int)).length = L := ⟨_, rfl⟩
      rw [hL5] at ho4 hl5
      rw [hL5]
      have HL5 : Aside0 (L5 = z + 1 + (k + 1)) := ⟨hl5⟩
      clear hL5 hl5
      go_roundw
      case rel => exact ⟨k + 1, L5, A5, c5, by omega, HL5, rfl, ⟨ho4⟩, HB4⟩
      case measure => have := HL.out; have := HL5.out; simp; omega
    · obtain rfl : k = padK z := by omega
      have h1 := hp.1
      rw [hL] at h1
      have b1 : ((L : Int) % 64 == 56) = true := by
        rw [beq_iff_eq]; omega
      have b2 : ((L : Int) % 64 != 56) = false := by
        rw [bne_eq_false_iff_eq]; omega
      have b3 : (L : Int) % 64 = 56 := by omega
      have g9 := (dg_cell (H.out.below KB.out) 9).trans rfl
      have HLB : Aside0 (L ≤ 200) := ⟨by omega⟩
      have HL := Aside0.mk hL
      clear h1 hp hL
      obtain ⟨A7, c7, he7, hc7, hC7⟩ := Kd.R_reads KO.out
      injection he7 with e1 e2 e3
      subst e1; subst e3
      rw [← e2] at hC7 hc7
      have HC7 := Aside0.mk hC7
      have HCC7 := Aside0.mk hc7
      clear hC7 hc7 e2
      go_wp2_with (go_at_call 110; (with_reducible refine (sh_putlong A' L c' _ (8 * (n : Int)) _ HC7.out HCC7.out (by have := HLB.out; omega)).mono ?_); rintro e w5 ⟨v5, rfl, hR, hb⟩; have HR5 := Aside0.mk hR; have HB5 := Aside0.mk hb; clear hR hb)
      go_ret
      refine ⟨v5, rfl, ?_, below_step KB.out HB5.out⟩
      have q := Kd.R_lower HR5.out KB.out.size
      unfold padL
      rw [HZ0.out]
      exact q
end Go.Proofs.Ytaoiamifofkklaa.Obj
