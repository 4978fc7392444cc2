/- Contracts of Go functions that the claims of this seat share. -/
import Derived.Test.YtaoiamifofkklaaProg
import Derived.Below
import Derived.Deep.Draws
import Derived.Deep.AppendLies
import Derived.Maps.AppendAt
import Derived.OwnWalk
import Derived.Laws.BytesArg
import Derived.Laws.MakeOwn
import Derived.Laws.OwnMore
import Derived.Deep.OwnRows
import Derived.Tactics
import Derived.Lib.ConvBytes
import Derived.Laws.Slices
import Derived.WalkKit
import Derived.KernelRfl
import Derived.RowKit3
import Derived.Deep.LoopGhost
import Derived.Deep.QuietTactic
import Derived.BigQuiet
import Derived.WideLaws
import Derived.Deep.DeepCutAuto
import Derived.Deep.CutBlock
import Derived.Deep.RegionHeld3
import Derived.Laws.Rows
import Derived.Lib.AppendStr
import Derived.ArgAppend
import Derived.Laws.IdiomCopy
import Derived.OrdersHeld
import Derived.Laws.BitsLemmas
import Derived.RowKit
import Derived.Test.YtaoiamifofkklaaWWords
import Derived.Test.YtaoiamifofkklaaWLast
import Derived.Test.YtaoiamifofkklaaWTab
import Derived.Test.YtaoiamifofkklaaWFour
import Derived.Test.YtaoiamifofkklaaWQPut
import Derived.Test.YtaoiamifofkklaaWApart
import Derived.Test.YtaoiamifofkklaaWArr
import Derived.Test.YtaoiamifofkklaaWZeros
import Derived.Test.YtaoiamifofkklaaWFoot
import Derived.Test.YtaoiamifofkklaaWKept
import Derived.Test.YtaoiamifofkklaaWShare
import Derived.Test.YtaoiamifofkklaaWN
import Derived.Test.YtaoiamifofkklaaWFootNe
import Derived.Test.YtaoiamifofkklaaWAt
import Derived.Test.YtaoiamifofkklaaWEqStruct
import Derived.Test.YtaoiamifofkklaaWRepsOne
import Derived.Test.YtaoiamifofkklaaWInv
import Derived.Test.YtaoiamifofkklaaWInvWords
import Derived.Test.YtaoiamifofkklaaWGuard
import Derived.Test.YtaoiamifofkklaaWNEv
import Derived.Test.YtaoiamifofkklaaWMore
import Derived.Test.YtaoiamifofkklaaX0Mem
import Derived.Test.YtaoiamifofkklaaX1Pure
import Derived.Test.YtaoiamifofkklaaXBitsG
namespace Go.Proofs.Ytaoiamifofkklaa.Obj
open Go.RowKit Go.Proofs.YtaoiamifofkklaaW.PrintWords Go.Proofs.YtaoiamifofkklaaW.PrintLast Go.Proofs.YtaoiamifofkklaaW.PrintMore
set_option linter.unusedVariables false
set_option linter.unusedSimpArgs false
/-- the bits of bytes -/
def bytesBits (xs : List Int) : List Bool := xs.flatMap fun c => bitsOf c.toNat 8
theorem bytesBits_len (xs : List Int) : (bytesBits xs).length = 8 * xs.length := by
  induction xs with
  | nil => rfl
  | cons x xs ih => unfold bytesBits at ih ⊢; rw [List.flatMap_cons, List.length_append, bitsOf_len, ih, List.length_cons]; omega
theorem bytesBits_take (xs : List Int) (i : Nat) (h : i < xs.length) : bytesBits (xs.take (i + 1)) = bytesBits (xs.take i) ++ bitsOf (xs.getD i 0).toNat 8 := by
  unfold bytesBits
  rw [List.take_succ_eq_append_getElem h, List.flatMap_append, List.getD_eq_getElem?_getD, List.getElem?_eq_getElem h]; simp
theorem test_bit8 (y k : Nat) (h : y < 256) : Go.bits .and .u64 (IntKind.u64.wrap (y : Int) / 2 ^ k) 1 = bitI (y.testBit k) := by
  rw [x_wrap_u64', show (y : Int) % 18446744073709551616 = (y : Int) by omega]
  exact test_bit y k (by omega)
set_option maxHeartbeats 8000000 in
set_option maxRecDepth 100000 in
theorem bt_bytes (B base : Nat) (v : Value) (l : List Bool) (A : Option Addr) (m c : Nat) (xs : List Int) (w : World) (h : WrL w base B v l) (hA : ∀ v' w', Mv B v w v' w' → Kd.C (Kd.int .u8) w' A m xs) (hb : IsB xs) (hm : m ≤ 1024) (hl : l.length + 8 * m ≤ 8192) :
    Calls Try.prog 17 #[.pointer (some ⟨B, 0, none⟩), .slice A m c] w fun e w' => ∃ v', e = .returned (.int .i64 0) ∧ WrL w' base B v' (l ++ bytesBits xs) ∧ Mv B v w v' w' ∧ Below base w w' := by
  have hu := Try.underlying105
  have hu2 := Try.underlying103
  have g1 := (blk_cell h.2.1 1).trans rfl
  have g2 := (blk_cell h.2.1 2).trans rfl
  have hxl : xs.length = m := (hA v w (Mv.refl _ _ _)).1
  have hroom := bt_room B (8 * (m : Int)) l.length w g1 (by omega)
  rw [decide_eq_true (by omega)] at hroom
  have HN := Aside0.mk (bt_none B w g2)
  have HROOM := Aside0.mk hroom
  have HW := Aside0.mk h
  have HA := Aside0.mk hA
  have HB := Aside0.mk hb
  have HX := Aside0.mk hxl
  clear h hroom g1 g2 hA hb hxl
  go_enter Try.func17, Try.ntmps17
  go_wp2_with (first
    | (go_at_call 67; refine HN.out.mono ?_; rintro e w1 ⟨rfl, hw1⟩; obtain rfl : w = w1 := hw1.symm)
    | (go_at_call 68; refine HROOM.out.mono ?_; rintro e w1 ⟨rfl, hw1⟩; obtain rfl : w = w1 := hw1.symm))
  go_loopw [31] (fun v31 wr => ∃ i : Nat, i ≤ m ∧ v31 = .int .i64 i ∧ ∃ vr, Aside0 (WrL wr base B vr (l ++ bytesBits (xs.take i))) ∧ Aside0 (Mv B v w vr wr) ∧ Aside0 (Below base w wr)) (fun v31 _ => m - (intOf v31).toNat)
  case atStart => exact ⟨0, Nat.zero_le _, rfl, v, by simpa [bytesBits] using HW, ⟨Mv.refl _ _ _⟩, ⟨Below.refl _ _⟩⟩
  case round =>
    obtain ⟨i, hi, rfl, vr, KW, KM, KB⟩ := hrel
    by_cases hlt : i < m
    · obtain ⟨ad, rfl, hc⟩ := (Kd.reads_of_C (enc := Value.int .u8) (d := (0 : Int)) (h1 := fun _ => rfl) (HA.out vr wr KM.out)).2.2 (by omega)
      have hx := hc i hlt
      have hyb : 0 ≤ xs.getD i 0 ∧ xs.getD i 0 < 256 := by
        have hl' := HX.out
        have := HB.out.get (i := i) (by omega)
        rw [List.getD_eq_getElem?_getD, List.getElem?_eq_getElem (show i < xs.length by omega)]
        exact this
      have ht := bytesBits_take xs i (by rw [HX.out]; exact hlt)
      obtain ⟨y, hy⟩ : ∃ y, xs.getD i 0 = y := ⟨_, rfl⟩
      rw [hy] at hx hyb ht
      obtain ⟨y, rfl⟩ : ∃ q : Nat, y = (q : Int) := ⟨y.toNat, by omega⟩
      rw [Int.toNat_natCast] at ht
      obtain ⟨L, hL⟩ : ∃ L, l ++ bytesBits (xs.take i) = L := ⟨_, rfl⟩
      have hLl : L.length = l.length + 8 * i := by rw [← hL, List.length_append, bytesBits_len, List.length_take, HX.out, Nat.min_eq_left hi]
      have hLs : l ++ bytesBits (xs.take (i + 1)) = L ++ bitsOf y 8 := by rw [ht, ← List.append_assoc, hL]
      rw [hL] at KW
      have HLL := Aside0.mk hLl
      have HLS := Aside0.mk hLs
      clear hc hy ht hL hLl hLs HW
      go_wp2_with fail
      obtain ⟨wo, rfl⟩ : ∃ wo : World, wo = wr := ⟨_, rfl⟩
      go_loopw [7] (fun v7 ws => ∃ k : Nat, k ≤ 8 ∧ v7 = .int .i64 ((k : Int) - 1) ∧ ∃ vs, Aside0 (WrL ws base B vs (L ++ (bitsOf y 8).take (8 - k))) ∧ Aside0 (Mv B vr wo vs ws) ∧ Aside0 (Below base wo ws)) (fun v7 _ => (intOf v7 + 1).toNat)
      case atStart => exact ⟨8, Nat.le_refl _, rfl, vr, by simpa using KW, ⟨Mv.refl _ _ _⟩, ⟨Below.refl _ _⟩⟩
      case round =>
        obtain ⟨k, hk, rfl, vs, JW, JM, JB⟩ := hrel
        rcases k with _ | j
        · go_wp2
          go_roundw
          case rel =>
            refine ⟨i + 1, by omega, by simp, vs, ⟨?_⟩, ⟨KM.out.trans JM.out⟩, ⟨KB.out.trans JB.out⟩⟩
            have q := JW.out
            rw [Nat.sub_zero, List.take_of_length_le (by rw [bitsOf_len]; exact Nat.le_refl _)] at q
            rw [HLS.out]; exact q
          case measure => simp [intOf]; omega
        · have e1 : ((j + 1 : Nat) : Int) - 1 = (j : Int) := by omega
          rw [e1]
          clear e1 KW
          go_wp2
          go_region_with (go_at_call 69; refine (bt_push B base vs (L ++ (bitsOf y 8).take (8 - (j + 1))) (y.testBit j) _ _ JW.out.drew (test_bit8 y j (by omega)) (by rw [List.length_append, List.length_take, bitsOf_len, HLL.out]; omega)).mono ?_; rintro e w2 ⟨v2, ⟨vv, rfl⟩, hW2, hM2, hB2⟩; have HW2 := Aside0.mk hW2; have HM2 := Aside0.mk hM2; have HB2 := Aside0.mk hB2; clear hW2 hM2 hB2)
          go_wp2
          go_roundw
          case rel => exact ⟨j, by omega, rfl, v2, ⟨by rw [bits_step y 8 j L hk]; exact HW2.out⟩, ⟨JM.out.trans (Mv.trans (Mv.refl _ _ _).drew HM2.out)⟩, ⟨JB.out.trans ((Below.refl _ _).drew.trans HB2.out)⟩⟩
          case measure => simp [intOf]
    · obtain rfl : i = m := by omega
      go_wp2
      go_ret
      refine ⟨vr, rfl, ?_, KM.out, KB.out⟩
      have q := KW.out
      rwa [List.take_of_length_le (by rw [HX.out]; exact Nat.le_refl _)] at q
theorem Rd.kept {w w1 : World} {base B : Nat} {v : Value} {bs : List Int} {n : Nat} {S : Nat → Prop} (h : Rd w base B v bs n) (hk : Kept w w1 S) (hB : ¬ S B) (hv : ∀ k, v.ownBlock = some k → ¬ S k) : Rd w1 base B v bs n :=
  ⟨h.1, blk_kept h.2.1 hk hB, Kd.R_mono (Kd.R_kept (Kd.R_tight rfl h.2.2) hk (fun j hj => hv j hj.symm)) (fun _ _ => trivial)⟩
theorem row_keepB {w wr w2 : World} {B : Nat} {v : Value} {xs : List Int} (h : Kd.R (Kd.int .u8) 5 wr w.heap.size (fun _ => True) v xs) (hk : KeepBut wr w2 B none) (hB : B < w.heap.size) : Kd.R (Kd.int .u8) 5 w2 w.heap.size (fun _ => True) v xs := by
  obtain ⟨inner, ho⟩ := Kd.R_own h
  exact Kd.R_mono (Kd.R_keep (Kd.R_tight rfl h) hk (fun k hk' e => by have := own_base ho k hk'.symm; omega)) (fun _ _ => trivial)
theorem kept_step {w W W' : World} {S : Nat → Prop} (h : Kept w W S) (hb : Below w.heap.size W W') : Kept w W' S := ⟨Nat.le_trans h.1 hb.size, fun i hi hn => (hb.block i hi).trans (h.2 i hi hn)⟩
theorem Rd.low {w2 w3 : World} {base B N : Nat} {v : Value} {bs : List Int} {n : Nat} (h : Rd w2 base B v bs n) (hb : Below N w2 w3) (hB : B < N) (hv : ∀ k, v.ownBlock = some k → k < N) : Rd w3 base B v bs n :=
  ⟨h.1, (hb.block B hB).trans h.2.1, Kd.R_mono (Kd.R_step (Kd.R_tight rfl h.2.2) (fun k hk _ => hb.block k (hv k hk.symm))) (fun _ _ => trivial)⟩
/-- the next n bytes -/
def bytesAt (bs : List Int) (at_ n : Nat) : List Int := (List.range n).map fun i => ((numB bs (at_ + 8 * i) 8 : Nat) : Int)
theorem bytesAt_succ (bs : List Int) (at_ n : Nat) : bytesAt bs at_ (n + 1) = bytesAt bs at_ n ++ [((numB bs (at_ + 8 * n) 8 : Nat) : Int)] := by
  unfold bytesAt; rw [List.range_succ, List.map_append]; rfl
theorem bytesAt_len (bs : List Int) (at_ n : Nat) : (bytesAt bs at_ n).length = n := by simp [bytesAt]
set_option maxHeartbeats 8000000 in
set_option maxRecDepth 100000 in
theorem bt_rbytes (B base : Nat) (v : Value) (bs : List Int) (at_ m : Nat) (w : World) (h : Rd w base B v bs at_) (hb : IsB bs) (hl : bs.length ≤ 100000000000000000) (ha : at_ + 8 * m ≤ 8 * bs.length) (hm : m ≤ 1024) :
    Calls Try.prog 43 #[.pointer (some ⟨B, 0, none⟩), .int .i64 m] w fun e w' => ∃ v1, e = .returned (.tuple #[v1, .int .i64 0]) ∧ Kd.R (Kd.int .u8) 5 w' w.heap.size (fun _ => True) v1 (bytesAt bs at_ m) ∧ Rd w' base B v bs (at_ + 8 * m) ∧ Kept w w' (fun k => k = B) ∧ Below base w w' := by
  have hu := Try.underlying112
  have hu2 := Try.underlying103
  have g2 := (blk_cell h.2.1 2).trans rfl
  have HN := Aside0.mk (bt_none B w g2)
  have HLE := Aside0.mk (bt_left B base v bs at_ w h hl (by omega))
  have hBlt := blk_lt h.2.1
  have hvlt : ∀ k, v.ownBlock = some k → k < w.heap.size := by
    obtain ⟨inner, ho⟩ := Kd.R_own h.2.2
    exact fun k hk => own_lt ho k hk
  have hbw : base ≤ w.heap.size := Nat.le_trans h.1 (Nat.le_of_lt hBlt)
  have HR := Aside0.mk h
  have HB := Aside0.mk hb
  have HV := Aside0.mk hvlt
  have hle : 8 * m ≤ 8 * bs.length - at_ := by omega
  obtain ⟨q, hq⟩ : ∃ q, 8 * bs.length - at_ = q := ⟨_, rfl⟩
  rw [hq] at HLE hle
  clear h hb hq hvlt
  go_enter Try.func43, Try.ntmps43
  go_wp2_with (first
    | (go_at_call 67; refine HN.out.mono ?_; rintro e w1 ⟨rfl, hw1⟩; obtain rfl : w = w1 := hw1.symm)
    | (go_at_call 76; refine HLE.out.mono ?_; rintro e w1 ⟨rfl, ⟨⟨nd, rfl⟩⟩⟩))
  go_loopw [6, 28] (fun v6 v28 wr => ∃ i : Nat, i ≤ m ∧ v28 = .int .i64 i ∧ Aside0 (Kd.R (Kd.int .u8) 5 wr w.heap.size (fun _ => True) v6 (bytesAt bs at_ i)) ∧ Aside0 (Rd wr base B v bs (at_ + 8 * i)) ∧ Aside0 (Kept w wr (fun k => k = B)) ∧ Aside0 (Below base w wr)) (fun _ v28 _ => m - (intOf v28).toNat)
  case atStart => exact ⟨0, Nat.zero_le _, rfl, ⟨Kd.R_nil _ _ _ _ _⟩, ⟨HR.out.drewN nd⟩, ⟨(Kept.refl _ _).drewN nd⟩, ⟨pw_below_drewN (Below.refl _ _) nd⟩⟩
  case round =>
    obtain ⟨i, hi, rfl, KO, KR, KK, KB⟩ := hrel
    by_cases hlt : i < m
    · have hn := numB_lt bs (at_ + 8 * i) 8
      have HS := Aside0.mk (bytesAt_succ bs at_ i)
      have HLN := Aside0.mk (bytesAt_len bs at_ i)
      have HT := Aside0.mk (bt_take B base v bs (at_ + 8 * i) 8 wr KR.out HB.out hl (by omega) (by omega))
      obtain ⟨A6, c6, rfl⟩ := Kd.R_slice KO.out
      obtain ⟨z, hz⟩ : ∃ z, numB bs (at_ + 8 * i) 8 = z := ⟨_, rfl⟩
      rw [hz] at hn HS HT
      have hsz : w.heap.size ≤ wr.heap.size := KK.out.1
      have hz256 : z < 256 := hn
      clear hz HN HLE hn
      go_wp2_with (first
        | (go_at_call 77; refine HT.out.mono ?_; rintro e w2 ⟨rfl, hR2, hK2, hB2⟩; have HR2 := Aside0.mk hR2; have HK2 := Aside0.mk hK2; have HB2 := Aside0.mk hB2; clear hR2 hK2 hB2)
        | ((with_reducible refine gate_dst (N := 35) rfl ?_); (refine x_append .u8 w.heap.size rfl (.tmp 30) (.tmp 34) 36 5 1 rfl Try.underlying36 bt_info (by decide) (.slice A6 (bytesAt bs at_ i).length c6) (bytesAt bs at_ i) [(z : Int)] (some ⟨w2.heap.size, 0, none⟩) 1 1 rfl rfl (Kd.R_below (row_keepB KO.out HK2.out hBlt) (below_alloc (Below.refl _ _) _)) (x_lit_C .u8 w2 5 [(z : Int)] (by simp)) (Below.refl w.heap.size _) (by simp; have := HK2.out.1; omega) (by rw [HLN.out]; omega) ?_); intro v1 w3 ho1 hb1 hg1 hn1; rw [← HS.out] at ho1; have HO := Aside0.mk ho1; have HB3 := Aside0.mk hb1; clear ho1 hb1 hg1 hn1))
      go_roundw
      case rel =>
        have hb3 : Below w.heap.size w2 w3 := ((Below.refl w.heap.size w2).alloc (by have := HK2.out.1; omega) _).trans HB3.out
        refine ⟨i + 1, by omega, by simp, HO, ⟨?_⟩, ⟨?_⟩, ⟨?_⟩⟩
        · have q := HR2.out.low hb3 hBlt HV.out
          exact q
        · exact kept_step (KK.out.then_ (keptB HK2.out) (fun _ h => .inl h)) hb3
        · exact (KB.out.trans HB2.out).trans (hb3.mono hbw)
      case measure => simp [intOf]; omega
    · obtain rfl : i = m := by omega
      go_wp2
      go_ret2
      exact ⟨_, rfl, KO.out, KR.out, KK.out, KB.out⟩
end Go.Proofs.Ytaoiamifofkklaa.Obj
