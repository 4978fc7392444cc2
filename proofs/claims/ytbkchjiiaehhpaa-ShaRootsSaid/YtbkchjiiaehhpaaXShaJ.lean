/- Contracts of Go functions that the claims of this seat share. -/
import Derived.Test.YtbkchjiiaehhpaaProg
import Derived.Below
import Derived.Deep.Draws
import Derived.Deep.AppendLies
import Derived.Maps.AppendAt
import Derived.OwnWalk
import Derived.Laws.BytesArg
import Derived.Laws.MakeOwn
import Derived.Laws.OwnMore
import Derived.Deep.OwnRows
import Derived.Tactics
import Derived.Lib.ConvBytes
import Derived.Laws.Slices
import Derived.WalkKit
import Derived.KernelRfl
import Derived.RowKit3
import Derived.Deep.LoopGhost
import Derived.Deep.QuietTactic
import Derived.BigQuiet
import Derived.WideLaws
import Derived.Deep.DeepCutAuto
import Derived.Deep.CutBlock
import Derived.Deep.RegionHeld3
import Derived.Laws.Rows
import Derived.Lib.AppendStr
import Derived.ArgAppend
import Derived.Laws.IdiomCopy
import Derived.OrdersHeld
import Derived.Laws.BitsLemmas
import Derived.RowKit
import Derived.Test.YtbkchjiiaehhpaaWWords
import Derived.Test.YtbkchjiiaehhpaaWLast
import Derived.Test.YtbkchjiiaehhpaaWTab
import Derived.Test.YtbkchjiiaehhpaaWFour
import Derived.Test.YtbkchjiiaehhpaaWQPut
import Derived.Test.YtbkchjiiaehhpaaWApart
import Derived.Test.YtbkchjiiaehhpaaWArr
import Derived.Test.YtbkchjiiaehhpaaWZeros
import Derived.Test.YtbkchjiiaehhpaaWFoot
import Derived.Test.YtbkchjiiaehhpaaWKept
import Derived.Test.YtbkchjiiaehhpaaWShare
import Derived.Test.YtbkchjiiaehhpaaWN
import Derived.Test.YtbkchjiiaehhpaaWFootNe
import Derived.Test.YtbkchjiiaehhpaaWAt
import Derived.Test.YtbkchjiiaehhpaaWEqStruct
import Derived.Test.YtbkchjiiaehhpaaWRepsOne
import Derived.Test.YtbkchjiiaehhpaaWInv
import Derived.Test.YtbkchjiiaehhpaaWInvWords
import Derived.Test.YtbkchjiiaehhpaaWGuard
import Derived.Test.YtbkchjiiaehhpaaWNEv
import Derived.Test.YtbkchjiiaehhpaaWMore
import Derived.Test.YtbkchjiiaehhpaaX0Mem
import Derived.Test.YtbkchjiiaehhpaaX1Pure
import Derived.Test.YtbkchjiiaehhpaaXShaI
import Derived.Lib.SlBytesConst
namespace Go.Proofs.Ytbkchjiiaehhpaa.Obj
open Go.RowKit Go.Proofs.YtbkchjiiaehhpaaW.PrintWords Go.Proofs.YtbkchjiiaehhpaaW.PrintLast Go.Proofs.YtbkchjiiaehhpaaW.PrintMore
set_option linter.unusedVariables false
set_option linter.unusedSimpArgs false
open Go.Proofs.Ytbkchjiiaehhpaa.PShaH
theorem foldN_add (a : Nat) : ∀ (b : Nat) (l : List Int) (s : W8), foldN (a + b) l s = foldN b (l.drop (64 * a)) (foldN a l s)
  | 0, l, s => by rw [foldN_zero]; rfl
  | b + 1, l, s => by
    rw [← Nat.add_assoc, foldN_succ, foldN_succ, foldN_add a b, List.drop_drop, show 64 * (a + b) = 64 * a + 64 * b by omega]
theorem foldN_front (k : Nat) (l m : List Int) (h : 64 * k ≤ l.length) : ∀ (j : Nat) (s : W8), j ≤ k → foldN j (l.take (64 * k) ++ m) s = foldN j l s
  | 0, s, _ => by rw [foldN_zero, foldN_zero]
  | j + 1, s, hj => by
    rw [foldN_succ, foldN_succ, foldN_front k l m h j s (by omega)]
    congr 1
    have hl : (l.take (64 * k)).length = 64 * k := by rw [List.length_take]; omega
    rw [List.drop_append_of_le_length (by omega), List.take_append_of_le_length (by rw [List.length_drop]; omega), List.drop_take, List.take_take, Nat.min_eq_left (by omega)]
theorem tailL_len (l : List Int) : (tailL l).length = l.length % 64 := by unfold tailL; rw [List.length_drop]; omega
theorem padL_tail (l : List Int) : padL l = l.take (64 * (l.length / 64)) ++ padL (tailL l) := by
  have h1 : padK (tailL l).length = padK l.length := by rw [tailL_len]; unfold padK; omega
  unfold padL
  rw [h1]
  have h2 : l = l.take (64 * (l.length / 64)) ++ tailL l := (List.take_append_drop _ _).symm
  rw [← List.append_assoc, ← List.append_assoc]
  rw [← h2]
theorem endL_len (l : List Int) : (endL l).length % 64 = 0 := by
  unfold endL
  rw [List.length_append, padL_len, bytesBE_len]
  have h1 := (padK_at (tailL l).length).1
  omega
theorem dig_same (l : List Int) : digR l = digP l := by
  have ha : allL l = l.take (64 * (l.length / 64)) ++ endL l := by
    unfold allL endL
    rw [padL_tail, List.append_assoc]
  have hk : 64 * (l.length / 64) ≤ l.length := by omega
  have hlen : (allL l).length / 64 = l.length / 64 + (endL l).length / 64 := by
    rw [ha, List.length_append, List.length_take, Nat.min_eq_left hk]
    omega
  have hd : (l.take (64 * (l.length / 64)) ++ endL l).drop (64 * (l.length / 64)) = endL l := List.drop_left' (by rw [List.length_take]; omega)
  have hf : foldN ((allL l).length / 64) (allL l) IV = foldN ((endL l).length / 64) (endL l) (foldN (l.length / 64) l IV) := by
    rw [hlen, foldN_add, ha, foldN_front _ _ _ hk _ _ (Nat.le_refl _), hd]
  unfold digR digP
  rw [hf]

set_option maxRecDepth 1000000 in
theorem abc_dig : (digP [97, 98, 99]).length = 32 ∧ (digP [97, 98, 99]).getD 0 0 = 186 ∧ (digP [97, 98, 99]).getD 1 0 = 120 ∧ (digP [97, 98, 99]).getD 31 0 = 173 := by decide +kernel
theorem abc_C (w : World) : Kd.C (Kd.int .u8) (w.alloc (.cells #[.int .u8 97, .int .u8 98, .int .u8 99] 5 (3, 4))) (some ⟨w.heap.size, 0, none⟩) 3 [97, 98, 99] := by
  refine Kd.C_of_reads (d := (0 : Int)) (h1 := fun _ => rfl) ⟨rfl, by decide, fun _ => ⟨_, rfl, fun j hj => ?_⟩⟩
  rw [Addr.add_mid, Nat.zero_add, World.cell?_alloc_mark]
  match j, hj with
  | 0, _ => rfl
  | 1, _ => rfl
  | 2, _ => rfl
set_option maxHeartbeats 4000000 in
set_option maxRecDepth 100000 in
theorem sh_awake (w : World) : Calls Try.prog 15 #[] w fun e w' => e = .returned (.bool true) ∧ Below w.heap.size w w' := by
  have kc := fun (w : World) (C : Array Value) (n c : Nat) => Lib.run_convert_bytes_const (P := Try.prog) w 22 5 C n c Try.underlying22 Try.underlying5
  go_enter Try.func15, Try.ntmps15
  go_wp2_with (go_at_call 16; (with_reducible refine (sh_of (some ⟨w.heap.size, 0, none⟩) 3 3 [97, 98, 99] _ (abc_C w) (IsB.cons (by decide) (by decide) (IsB.cons (by decide) (by decide) (IsB.cons (by decide) (by decide) IsB.nil))) (Nat.le_refl _) (by decide)).mono ?_); rintro e w1 ⟨v1, rfl, hR, hb⟩; obtain ⟨z, hz⟩ : ∃ z, digP [97, 98, 99] = z := ⟨_, rfl⟩; have hd := abc_dig; rw [hz] at hd hR; obtain ⟨hl, q0, q1, q2⟩ := hd; obtain ⟨A, c, rfl, _, hC⟩ := Kd.R_reads hR; obtain ⟨ad, rfl, hc⟩ := (Kd.reads_of_C (enc := Value.int .u8) (d := (0 : Int)) (h1 := fun _ => rfl) hC).2.2 (by rw [hl]; decide); have c0 := hc 0 (by rw [hl]; decide); have c1 := hc 1 (by rw [hl]; decide); have c2 := hc 31 (by rw [hl]; decide); rw [q0] at c0; rw [q1] at c1; rw [q2] at c2; rw [Addr.add_zero'] at c0; replace c1 : w1.cell? ⟨ad.block, ad.off + 1, none⟩ = some (.int .u8 120) := c1; replace c2 : w1.cell? ⟨ad.block, ad.off + 31, none⟩ = some (.int .u8 173) := c2; rw [hl]; have HB := Aside0.mk (below_step ((Below.refl _ w).alloc (Nat.le_refl _) _) hb); clear hl q0 q1 q2 hc hC hR hb hz)
  go_ret
  exact ⟨rfl, HB.out⟩
end Go.Proofs.Ytbkchjiiaehhpaa.Obj
