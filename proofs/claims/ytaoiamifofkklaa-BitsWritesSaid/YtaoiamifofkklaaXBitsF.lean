/- Contracts of Go functions that the claims of this seat share. -/
import Derived.Test.YtaoiamifofkklaaProg
import Derived.Below
import Derived.Deep.Draws
import Derived.Deep.AppendLies
import Derived.Maps.AppendAt
import Derived.OwnWalk
import Derived.Laws.BytesArg
import Derived.Laws.MakeOwn
import Derived.Laws.OwnMore
import Derived.Deep.OwnRows
import Derived.Tactics
import Derived.Lib.ConvBytes
import Derived.Laws.Slices
import Derived.WalkKit
import Derived.KernelRfl
import Derived.RowKit3
import Derived.Deep.LoopGhost
import Derived.Deep.QuietTactic
import Derived.BigQuiet
import Derived.WideLaws
import Derived.Deep.DeepCutAuto
import Derived.Deep.CutBlock
import Derived.Deep.RegionHeld3
import Derived.Laws.Rows
import Derived.Lib.AppendStr
import Derived.ArgAppend
import Derived.Laws.IdiomCopy
import Derived.OrdersHeld
import Derived.Laws.BitsLemmas
import Derived.RowKit
import Derived.Test.YtaoiamifofkklaaWWords
import Derived.Test.YtaoiamifofkklaaWLast
import Derived.Test.YtaoiamifofkklaaWTab
import Derived.Test.YtaoiamifofkklaaWFour
import Derived.Test.YtaoiamifofkklaaWQPut
import Derived.Test.YtaoiamifofkklaaWApart
import Derived.Test.YtaoiamifofkklaaWArr
import Derived.Test.YtaoiamifofkklaaWZeros
import Derived.Test.YtaoiamifofkklaaWFoot
import Derived.Test.YtaoiamifofkklaaWKept
import Derived.Test.YtaoiamifofkklaaWShare
import Derived.Test.YtaoiamifofkklaaWN
import Derived.Test.YtaoiamifofkklaaWFootNe
import Derived.Test.YtaoiamifofkklaaWAt
import Derived.Test.YtaoiamifofkklaaWEqStruct
import Derived.Test.YtaoiamifofkklaaWRepsOne
import Derived.Test.YtaoiamifofkklaaWInv
import Derived.Test.YtaoiamifofkklaaWInvWords
import Derived.Test.YtaoiamifofkklaaWGuard
import Derived.Test.YtaoiamifofkklaaWNEv
import Derived.Test.YtaoiamifofkklaaWMore
import Derived.Test.YtaoiamifofkklaaX0Mem
import Derived.Test.YtaoiamifofkklaaX1Pure
import Derived.Test.YtaoiamifofkklaaXBitsE
namespace Go.Proofs.Ytaoiamifofkklaa.Obj
open Go.RowKit Go.Proofs.YtaoiamifofkklaaW.PrintWords Go.Proofs.YtaoiamifofkklaaW.PrintLast Go.Proofs.YtaoiamifofkklaaW.PrintMore
set_option linter.unusedVariables false
set_option linter.unusedSimpArgs false
theorem keptB {w w' : World} {B : Nat} (h : KeepBut w w' B none) : Kept w w' (fun k => k = B) := ⟨h.1, fun i hi hn => h.2 i hi hn (by simp)⟩
set_option maxHeartbeats 1000000 in
theorem bt_new (w : World) : Calls Try.prog 14 #[] w fun e w' => ∃ B, e = .returned (.pointer (some ⟨B, 0, none⟩)) ∧ WrL w' w.heap.size B (.slice none 0 0) [] ∧ Below w.heap.size w w' ∧ w.heap.size ≤ B ∧ B < w'.heap.size := by
  have hu := Try.underlying105
  have hu2 := Try.underlying103
  go_enter Try.func14, Try.ntmps14
  go_wp2
  go_ret
  refine ⟨w.heap.size, rfl, ⟨Nat.le_refl _, blk_new _ _, Kd.R_nil _ _ _ _ _⟩, (Below.refl _ _).alloc (Nat.le_refl _) _, Nat.le_refl _, by simp⟩
set_option maxHeartbeats 1000000 in
theorem bt_len (B base : Nat) (v : Value) (l : List Bool) (w : World) (h : WrL w base B v l) : Calls Try.prog 19 #[.pointer (some ⟨B, 0, none⟩)] w fun e w' => e = .returned (.int .i64 l.length) ∧ w' = w := by
  have hu := Try.underlying105
  have hu2 := Try.underlying103
  have g1 := (blk_cell h.2.1 1).trans rfl
  have g2 := (blk_cell h.2.1 2).trans rfl
  have HN := Aside0.mk (bt_none B w g2)
  clear h
  go_enter Try.func19, Try.ntmps19
  go_wp2_with (go_at_call 67; refine HN.out.mono ?_; rintro e w1 ⟨rfl, rfl⟩)
  go_ret
  exact ⟨rfl, rfl⟩
set_option maxHeartbeats 4000000 in
set_option maxRecDepth 100000 in
theorem bt_done (B base : Nat) (v : Value) (l : List Bool) (w : World) (h : WrL w base B v l) (hl : l.length ≤ 100000) : Calls Try.prog 20 #[.pointer (some ⟨B, 0, none⟩)] w fun e w' => ∃ v', e = .returned v' ∧ Kd.R (Kd.int .u8) 5 w' w.heap.size (fun _ => True) v' (pack l) ∧ Below w.heap.size w w' := by
  have hu := Try.underlying105
  have hu2 := Try.underlying103
  obtain ⟨A0, cap, rfl, hlc, hC⟩ := Kd.R_reads h.2.2
  have g2 := (blk_cell h.2.1 2).trans rfl
  have g0 := (blk_cell h.2.1 0).trans rfl
  have HN := Aside0.mk (bt_none B w g2)
  have hpl := pack_len l
  have HH := Aside0.mk h.2.1
  obtain ⟨bs, hbs⟩ : ∃ bs, pack l = bs := ⟨_, rfl⟩
  rw [hbs] at hC g0 hpl HH ⊢
  obtain ⟨len, hlen⟩ : ∃ len, bs.length = len := ⟨_, rfl⟩
  rw [hlen] at hC g0 hpl HH
  have HC := Aside0.mk hC
  have HL := Aside0.mk hlen
  have hl2 : len ≤ 100000 := by omega
  clear h hC hlc hbs hlen hpl
  go_enter Try.func20, Try.ntmps20
  go_wp2_with (first
    | (go_at_call 67; refine HN.out.mono ?_; rintro e w1 ⟨rfl, rfl⟩)
    | (at_make; refine x_makecap .u8 _ 5 rfl (N := 18) rfl 36 _ _ rfl _ _ rfl rfl Try.underlying36 1 bt_info (by decide) (by omega) (by omega) (by omega) (Below.refl _ _) (Nat.le_refl _) ?_; intro v1 w2 ho1 hb1 hg1 hn1; rw [Int.toNat_natCast] at ho1; obtain ⟨A1, c1, rfl⟩ := Kd.R_slice ho1; rw [List.length_replicate] at ho1 ⊢; have HO := Aside0.mk ho1; have HB1 := Aside0.mk hb1; have g0' := (blk_cell (blk_below HH.out hb1) 0).trans rfl; clear ho1 hb1 hg1 hn1)
    | ((with_reducible refine gate_dst (N := 25) rfl ?_); (refine x_copy .u8 _ 5 rfl (.tmp 19) (.tmp 24) 36 36 rfl Try.underlying36 (by kernel_rfl) (.slice A1 len c1) (List.replicate len 0) bs A0 cap _ rfl (by rw [HL.out]; rfl) HO.out (by rw [HL.out]; exact (Kd.C_below HC.out HB1.out)) (by rw [HL.out]; simp) HB1.out ?_); intro w3 ho3 hb3 hg3; have HO3 := Aside0.mk ho3; have HB3 := Aside0.mk hb3; clear ho3 hb3 hg3))
  go_ret
  refine ⟨_, rfl, ?_, HB3.out⟩
  have q := HO3.out
  rw [HL.out, List.drop_of_length_le (by simp), List.append_nil] at q
  exact q
set_option maxHeartbeats 4000000 in
set_option maxRecDepth 100000 in
theorem bt_reader (A : Option Addr) (len cap : Nat) (bs : List Int) (w : World) (hC : Kd.C (Kd.int .u8) w A len bs) (hl : len ≤ 140737488351232) : Calls Try.prog 37 #[.slice A len cap] w fun e w' => ∃ B v, e = .returned (.pointer (some ⟨B, 0, none⟩)) ∧ Rd w' w.heap.size B v bs 0 ∧ Below w.heap.size w w' := by
  have hu := Try.underlying112
  have hu2 := Try.underlying103
  have HL := Aside0.mk hC.1
  have HC := Aside0.mk hC
  clear hC
  go_enter Try.func37, Try.ntmps37
  go_wp2_with (first
    | (at_make; refine x_makecap .u8 _ 5 rfl (N := 6) rfl 36 _ _ rfl _ _ rfl rfl Try.underlying36 1 bt_info (by decide) (by omega) (by omega) (by omega) (Below.refl _ _) (Nat.le_refl _) ?_; intro v1 w2 ho1 hb1 hg1 hn1; rw [Int.toNat_natCast] at ho1; obtain ⟨A1, c1, rfl⟩ := Kd.R_slice ho1; rw [List.length_replicate] at ho1 ⊢; have HO := Aside0.mk ho1; have HB1 := Aside0.mk hb1; clear ho1 hb1 hg1 hn1)
    | ((with_reducible refine gate_dst (N := 9) rfl ?_); (refine x_copy .u8 _ 5 rfl (.tmp 7) (.tmp 8) 36 36 rfl Try.underlying36 (by kernel_rfl) (.slice A1 len c1) (List.replicate len 0) bs A cap _ rfl (by rw [HL.out]; rfl) HO.out (by rw [HL.out]; exact (Kd.C_below HC.out HB1.out)) (by rw [HL.out]; simp) HB1.out ?_); intro w3 ho3 hb3 hg3; have HO3 := Aside0.mk ho3; have HB3 := Aside0.mk hb3; clear ho3 hb3 hg3))
  go_ret
  have q := HO3.out
  rw [HL.out, List.drop_of_length_le (by simp), List.append_nil] at q
  have e8 : ((8 * len : Nat) : Int) = 8 * (len : Int) := by omega
  refine ⟨w3.heap.size, .slice A1 len c1, rfl, ⟨HB3.out.size, ?_, Kd.R_below q (below_alloc (Below.refl _ _) _)⟩, HB3.out.alloc HB3.out.size _⟩
  rw [HL.out, e8]
  exact blk_new _ _
end Go.Proofs.Ytaoiamifofkklaa.Obj
