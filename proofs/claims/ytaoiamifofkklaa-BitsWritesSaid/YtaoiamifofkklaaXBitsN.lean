/- Contracts of Go functions that the claims of this seat share. -/
import Derived.Test.YtaoiamifofkklaaProg
import Derived.Below
import Derived.Deep.Draws
import Derived.Deep.AppendLies
import Derived.Maps.AppendAt
import Derived.OwnWalk
import Derived.Laws.BytesArg
import Derived.Laws.MakeOwn
import Derived.Laws.OwnMore
import Derived.Deep.OwnRows
import Derived.Tactics
import Derived.Lib.ConvBytes
import Derived.Laws.Slices
import Derived.WalkKit
import Derived.KernelRfl
import Derived.RowKit3
import Derived.Deep.LoopGhost
import Derived.Deep.QuietTactic
import Derived.BigQuiet
import Derived.WideLaws
import Derived.Deep.DeepCutAuto
import Derived.Deep.CutBlock
import Derived.Deep.RegionHeld3
import Derived.Laws.Rows
import Derived.Lib.AppendStr
import Derived.ArgAppend
import Derived.Laws.IdiomCopy
import Derived.OrdersHeld
import Derived.Laws.BitsLemmas
import Derived.RowKit
import Derived.Test.YtaoiamifofkklaaWWords
import Derived.Test.YtaoiamifofkklaaWLast
import Derived.Test.YtaoiamifofkklaaWTab
import Derived.Test.YtaoiamifofkklaaWFour
import Derived.Test.YtaoiamifofkklaaWQPut
import Derived.Test.YtaoiamifofkklaaWApart
import Derived.Test.YtaoiamifofkklaaWArr
import Derived.Test.YtaoiamifofkklaaWZeros
import Derived.Test.YtaoiamifofkklaaWFoot
import Derived.Test.YtaoiamifofkklaaWKept
import Derived.Test.YtaoiamifofkklaaWShare
import Derived.Test.YtaoiamifofkklaaWN
import Derived.Test.YtaoiamifofkklaaWFootNe
import Derived.Test.YtaoiamifofkklaaWAt
import Derived.Test.YtaoiamifofkklaaWEqStruct
import Derived.Test.YtaoiamifofkklaaWRepsOne
import Derived.Test.YtaoiamifofkklaaWInv
import Derived.Test.YtaoiamifofkklaaWInvWords
import Derived.Test.YtaoiamifofkklaaWGuard
import Derived.Test.YtaoiamifofkklaaWNEv
import Derived.Test.YtaoiamifofkklaaWMore
import Derived.Test.YtaoiamifofkklaaX0Mem
import Derived.Test.YtaoiamifofkklaaX1Pure
import Derived.Test.YtaoiamifofkklaaXBitsM
namespace Go.Proofs.Ytaoiamifofkklaa.Obj
open Go.RowKit Go.Proofs.YtaoiamifofkklaaW.PrintWords Go.Proofs.YtaoiamifofkklaaW.PrintLast Go.Proofs.YtaoiamifofkklaaW.PrintMore
set_option linter.unusedVariables false
set_option linter.unusedSimpArgs false
/-- what Bytes answers at len bits -/
def bE (len m : Nat) : Int := if 1024 < m ∨ 8192 < len + 8 * m then 2 else 0
def bL (l : List Bool) (xs : List Int) : List Bool := if bE l.length xs.length = 0 then l ++ bytesBits xs else l
theorem bE_zero {len m : Nat} (h : bE len m = 0) : m ≤ 1024 ∧ len + 8 * m ≤ 8192 := by
  unfold bE at h
  by_cases h1 : 1024 < m ∨ 8192 < len + 8 * m
  · rw [if_pos h1] at h; cases h
  · omega
theorem bL_le {l : List Bool} {xs : List Int} (h : l.length ≤ 8192) : (bL l xs).length ≤ 8192 := by
  unfold bL
  by_cases hz : bE l.length xs.length = 0
  · rw [if_pos hz, List.length_append, bytesBits_len]
    exact (bE_zero hz).2
  · rw [if_neg hz]; exact h
set_option maxHeartbeats 4000000 in
set_option maxRecDepth 100000 in
theorem bt_bytesF (B base : Nat) (v : Value) (l : List Bool) (A : Option Addr) (m c : Nat) (xs : List Int) (w : World) (h : WrL w base B v l) (hA : ∀ v' w', Mv B v w v' w' → Kd.C (Kd.int .u8) w' A m xs) (hb : IsB xs) (hl : l.length ≤ 8192) (hm : m ≤ 140737488351232) :
    Calls Try.prog 17 #[.pointer (some ⟨B, 0, none⟩), .slice A m c] w fun e w' => ∃ v', e = .returned (.int .i64 (bE l.length m)) ∧ WrL w' base B v' (bL l xs) ∧ Mv B v w v' w' ∧ Below base w w' := by
  have hxl : xs.length = m := (hA v w (Mv.refl _ _ _)).1
  by_cases hz : bE l.length m = 0
  · obtain ⟨h1, h2⟩ := bE_zero hz
    have hw : bL l xs = l ++ bytesBits xs := by unfold bL; rw [hxl, if_pos hz]
    rw [hz, hw]
    exact bt_bytes B base v l A m c xs w h hA hb h1 h2
  · have hw : bL l xs = l := by unfold bL; rw [hxl, if_neg hz]
    rw [hw]
    have hu := Try.underlying105
    have g1 := (blk_cell h.2.1 1).trans rfl
    have g2 := (blk_cell h.2.1 2).trans rfl
    have HN := Aside0.mk (bt_none B w g2)
    have HW := Aside0.mk h
    have hlong : 1024 < m ∨ 8192 < l.length + 8 * m := Classical.byContradiction fun q => hz (by unfold bE; rw [if_neg q])
    have he : bE l.length m = 2 := by unfold bE; rw [if_pos hlong]
    rw [he]
    have hroom := bt_room B (8 * (m : Int)) l.length w g1 (by omega)
    by_cases hx : 1024 < m
    · clear hw hz h g1 g2 he hroom hlong hA hxl
      go_enter Try.func17, Try.ntmps17
      go_wp2_with (go_at_call 67; refine HN.out.mono ?_; rintro e w1 ⟨rfl, hw1⟩; obtain rfl : w = w1 := hw1.symm)
      go_ret
      first | exact ⟨v, rfl, HW.out, Mv.refl _ _ _, Below.refl _ _⟩ | exact ⟨rfl, v, HW.out, Mv.refl _ _ _, Below.refl _ _⟩
    · rw [decide_eq_false (by omega)] at hroom
      have HROOM := Aside0.mk hroom
      have hx' : m ≤ 1024 := by omega
      clear hw hz h g1 g2 he hroom hlong hA hxl
      go_enter Try.func17, Try.ntmps17
      go_wp2_with (first
        | (go_at_call 67; refine HN.out.mono ?_; rintro e w1 ⟨rfl, hw1⟩; obtain rfl : w = w1 := hw1.symm)
        | (go_at_call 68; refine HROOM.out.mono ?_; rintro e w1 ⟨rfl, hw1⟩; obtain rfl : w = w1 := hw1.symm))
      go_ret
      first | exact ⟨v, rfl, HW.out, Mv.refl _ _ _, Below.refl _ _⟩ | exact ⟨rfl, v, HW.out, Mv.refl _ _ _, Below.refl _ _⟩
theorem rv_put_i (B base : Nat) (v : Value) (l : List Bool) (x y : Int) (n wd : Nat) (w : World) (ex : x = (n : Int)) (ey : y = (wd : Int)) (h : Wv w base B v l) (hw : wd ≤ 64) (hn : n < 18446744073709551616) (hz : wd < 64 → n / 2 ^ wd = 0) (hl : l.length + wd ≤ 8192) :
    Calls Try.prog 16 #[.pointer (some ⟨B, 0, none⟩), .int .u64 x, .int .i64 y] w fun e w' => ∃ v', e = .returned (.int .i64 0) ∧ Wv w' base B v' (l ++ bitsOf n wd) ∧ Mv B v w v' w' ∧ Below base w w' := by
  subst ex
  subst ey
  exact rv_put0 B base v l n wd w h hw hn hz hl
set_option maxHeartbeats 8000000 in
set_option maxRecDepth 100000 in
theorem rv_bytes0 (B base : Nat) (v : Value) (l : List Bool) (A : Option Addr) (m c : Nat) (xs : List Int) (w : World) (h : Wv w base B v l) (hA : ∀ v' w', Mv B v w v' w' → Kd.C (Kd.int .u8) w' A m xs) (hb : IsB xs) (hm : m ≤ 1024) (hl : l.length + 8 * m ≤ 8192) :
    Calls Try.prog 18 #[.pointer (some ⟨B, 0, none⟩), .slice A m c] w fun e w' => ∃ v', e = .returned (.int .i64 0) ∧ Wv w' base B v' (l ++ bytesBits xs) ∧ Mv B v w v' w' ∧ Below base w w' := by
  have hu := Try.underlying30
  have hxl : xs.length = m := (hA v w (Mv.refl _ _ _)).1
  obtain ⟨A0, cap, rfl, hlc, hC⟩ := Kd.R_reads h.2.2
  have g0 := (blk_cell h.2.1 0).trans rfl
  have HW := Aside0.mk h
  have HA := Aside0.mk hA
  have HB := Aside0.mk hb
  have HX := Aside0.mk hxl
  clear h hA hb hxl hC hlc
  go_enter Try.func18, Try.ntmps18
  go_wp2
  go_loopw [5] (fun v5 wr => ∃ i : Nat, i ≤ m ∧ v5 = .int .i64 i ∧ ∃ vr, Aside0 (Wv wr base B vr (l ++ bytesBits (xs.take i))) ∧ Aside0 (Mv B (.slice A0 l.length cap) w vr wr) ∧ Aside0 (Below base w wr)) (fun v5 _ => m - (intOf v5).toNat)
  case atStart => exact ⟨0, Nat.zero_le _, rfl, (.slice A0 l.length cap), by simpa [bytesBits] using HW, ⟨Mv.refl _ _ _⟩, ⟨Below.refl _ _⟩⟩
  case round =>
    obtain ⟨i, hi, rfl, vr, KW, KM, KB⟩ := hrel
    by_cases hlt : i < m
    · obtain ⟨ad, rfl, hc⟩ := (Kd.reads_of_C (enc := Value.int .u8) (d := (0 : Int)) (h1 := fun _ => rfl) (HA.out vr wr KM.out)).2.2 (by omega)
      have hx := hc i hlt
      have hyb : 0 ≤ xs.getD i 0 ∧ xs.getD i 0 < 256 := by
        have hl' := HX.out
        have := HB.out.get (i := i) (by omega)
        rw [List.getD_eq_getElem?_getD, List.getElem?_eq_getElem (show i < xs.length by omega)]
        exact this
      have ht := bytesBits_take xs i (by rw [HX.out]; exact hlt)
      obtain ⟨y, hy⟩ : ∃ y, xs.getD i 0 = y := ⟨_, rfl⟩
      rw [hy] at hx hyb ht
      obtain ⟨y, rfl⟩ : ∃ q : Nat, y = (q : Int) := ⟨y.toNat, by omega⟩
      rw [Int.toNat_natCast] at ht
      obtain ⟨L, hL⟩ : ∃ L, l ++ bytesBits (xs.take i) = L := ⟨_, rfl⟩
      have hLl : L.length = l.length + 8 * i := by rw [← hL, List.length_append, bytesBits_len, List.length_take, HX.out, Nat.min_eq_left hi]
      have hLs : l ++ bytesBits (xs.take (i + 1)) = L ++ bitsOf y 8 := by rw [ht, ← List.append_assoc, hL]
      rw [hL] at KW
      have HLL := Aside0.mk hLl
      have HLS := Aside0.mk hLs
      have hwy : IntKind.u64.wrap (y : Int) = (y : Int) := by rw [x_wrap_u64', show (y : Int) % 18446744073709551616 = (y : Int) by omega]
      clear hc hy ht hL hLl hLs HW g0
      go_wp2_with (go_at_call 16; refine (rv_put_i B base vr L _ _ y 8 _ rfl rfl KW.out (by decide) (by omega) (fun _ => Nat.div_eq_of_lt (by omega)) (by rw [HLL.out]; omega)).mono ?_; rintro e w2 ⟨v2, rfl, hW2, hM2, hB2⟩; have HW2 := Aside0.mk hW2; have HM2 := Aside0.mk hM2; have HB2 := Aside0.mk hB2; clear hW2 hM2 hB2)
      go_roundw
      case rel => exact ⟨i + 1, by omega, by simp, v2, ⟨by rw [HLS.out]; exact HW2.out⟩, ⟨KM.out.trans HM2.out⟩, ⟨KB.out.trans HB2.out⟩⟩
      case measure => simp [intOf]; omega
    · obtain rfl : i = m := by omega
      go_wp2
      go_ret
      refine ⟨vr, rfl, ?_, KM.out, KB.out⟩
      have q := KW.out
      rwa [List.take_of_length_le (by rw [HX.out]; exact Nat.le_refl _)] at q
set_option maxHeartbeats 4000000 in
set_option maxRecDepth 100000 in
theorem rv_bytesF (B base : Nat) (v : Value) (l : List Bool) (A : Option Addr) (m c : Nat) (xs : List Int) (w : World) (h : Wv w base B v l) (hA : ∀ v' w', Mv B v w v' w' → Kd.C (Kd.int .u8) w' A m xs) (hb : IsB xs) (hl : l.length ≤ 8192) (hm : m ≤ 140737488351232) :
    Calls Try.prog 18 #[.pointer (some ⟨B, 0, none⟩), .slice A m c] w fun e w' => ∃ v', e = .returned (.int .i64 (bE l.length m)) ∧ Wv w' base B v' (bL l xs) ∧ Mv B v w v' w' ∧ Below base w w' := by
  have hxl : xs.length = m := (hA v w (Mv.refl _ _ _)).1
  by_cases hz : bE l.length m = 0
  · obtain ⟨h1, h2⟩ := bE_zero hz
    have hw : bL l xs = l ++ bytesBits xs := by unfold bL; rw [hxl, if_pos hz]
    rw [hz, hw]
    exact rv_bytes0 B base v l A m c xs w h hA hb h1 h2
  · have hw : bL l xs = l := by unfold bL; rw [hxl, if_neg hz]
    rw [hw]
    have hu := Try.underlying30
    have HW := Aside0.mk h
    have hlong : 1024 < m ∨ 8192 < l.length + 8 * m := Classical.byContradiction fun q => hz (by unfold bE; rw [if_neg q])
    have he : bE l.length m = 2 := by unfold bE; rw [if_pos hlong]
    rw [he]
    obtain ⟨A0, cap, rfl, hlc, hC⟩ := Kd.R_reads h.2.2
    have g0 := (blk_cell h.2.1 0).trans rfl
    by_cases hx : 1024 < m
    · clear hw hz h he hlong hA hxl hC hlc
      go_enter Try.func18, Try.ntmps18
      go_wp2
      go_ret
      first | exact ⟨_, rfl, HW.out, Mv.refl _ _ _, Below.refl _ _⟩ | exact ⟨rfl, _, HW.out, Mv.refl _ _ _, Below.refl _ _⟩
    · have hx' : m ≤ 1024 := by omega
      have hs : 8192 < l.length + 8 * m := by omega
      clear hw hz h he hlong hA hxl hC hlc
      go_enter Try.func18, Try.ntmps18
      go_wp2
      go_ret
      first | exact ⟨_, rfl, HW.out, Mv.refl _ _ _, Below.refl _ _⟩ | exact ⟨rfl, _, HW.out, Mv.refl _ _ _, Below.refl _ _⟩
theorem bits_ext (a b : List Int) (ha : IsB a) (hb : IsB b) (hl : a.length = b.length) (h : ∀ k, bitB a k = bitB b k) : a = b := by
  apply List.ext_getElem hl
  intro i h1 h2
  have p := ha.get h1
  have q := hb.get h2
  have key : a[i].toNat = b[i].toNat := by
    apply Nat.eq_of_testBit_eq
    intro j
    by_cases hj : j < 8
    · have := h (8 * i + (7 - j))
      unfold bitB at this
      rw [show (8 * i + (7 - j)) / 8 = i by omega, show 7 - (8 * i + (7 - j)) % 8 = j by omega, List.getD_eq_getElem?_getD, List.getD_eq_getElem?_getD, List.getElem?_eq_getElem h1, List.getElem?_eq_getElem h2] at this
      exact this
    · have hp : (2 : Nat) ^ 8 ≤ 2 ^ j := Nat.pow_le_pow_right (by decide) (by omega)
      rw [Nat.testBit_lt_two_pow (show a[i].toNat < 2 ^ j by omega), Nat.testBit_lt_two_pow (show b[i].toNat < 2 ^ j by omega)]
  omega
def Part (l : List Bool) (i : Nat) (U : List Int) : Prop := U.length = (l.length + 7) / 8 ∧ IsB U ∧ ∀ k, bitB U k = (decide (k < i) && l.getD k false)
theorem part_zero (l : List Bool) (n : Nat) (h : n = (l.length + 7) / 8) : Part l 0 (List.replicate n 0) := by
  refine ⟨by rw [List.length_replicate, h], fun x hx => by rw [(List.mem_replicate.1 hx).2]; decide, fun k => ?_⟩
  unfold bitB
  have : (List.replicate n (0 : Int)).getD (k / 8) 0 = 0 := by
    rw [List.getD_eq_getElem?_getD, List.getElem?_replicate]; split <;> rfl
  rw [this]; simp
theorem part_skip {l : List Bool} {i : Nat} {U : List Int} (h : Part l i U) (h0 : l.getD i false = false) : Part l (i + 1) U := by
  refine ⟨h.1, h.2.1, fun k => ?_⟩
  rw [h.2.2 k]
  by_cases hk : k = i
  · subst hk; rw [h0]; simp
  · by_cases h1 : k < i
    · rw [decide_eq_true h1, decide_eq_true (show k < i + 1 by omega)]
    · rw [decide_eq_false h1, decide_eq_false (show ¬ k < i + 1 by omega)]
theorem push1_b {U : List Int} (h : IsB U) (n : Nat) (x : Int) : IsB (push1 U n x) := by
  intro z hz
  unfold push1 at hz
  rcases List.mem_or_eq_of_mem_set hz with q | q
  · exact h z q
  · subst q
    unfold Go.bits
    rw [IntKind.wrap_u8]
    omega
theorem part_set {l : List Bool} {i : Nat} {U : List Int} (h : Part l i U) (hi : i < l.length) (h1 : l.getD i false = true) : Part l (i + 1) (push1 U i 1) := by
  have hl := h.1
  refine ⟨by unfold push1; rw [List.length_set]; exact hl, push1_b h.2.1 i 1, fun k => ?_⟩
  have := bit_push U i true k h.2.1 (by omega) (by rw [h.2.2 i]; simp)
  rw [show (1 : Int) = bitI true from rfl, this, h.2.2 k]
  by_cases hk : k = i
  · subst hk; rw [if_pos rfl, h1]; simp
  · rw [if_neg hk]
    by_cases h2 : k < i
    · rw [decide_eq_true h2, decide_eq_true (show k < i + 1 by omega)]
    · rw [decide_eq_false h2, decide_eq_false (show ¬ k < i + 1 by omega)]
theorem part_end {l : List Bool} {U : List Int} (h : Part l l.length U) : U = pack l := by
  refine bits_ext U (pack l) h.2.1 (pack_b l) (by rw [h.1, pack_len]) fun k => ?_
  rw [h.2.2 k, bit_pack]
  by_cases hk : k < l.length
  · rw [decide_eq_true hk, Bool.true_and]
  · rw [decide_eq_false hk, Bool.false_and, List.getD_eq_getElem?_getD, List.getElem?_eq_none (by omega)]; rfl
end Go.Proofs.Ytaoiamifofkklaa.Obj
