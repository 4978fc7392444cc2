/- Contracts of Go functions that the claims of this seat share. -/
import Derived.Test.YtaoiamifofkklaaProg
import Derived.Below
import Derived.Deep.Draws
import Derived.Deep.AppendLies
import Derived.Maps.AppendAt
import Derived.OwnWalk
import Derived.Laws.BytesArg
import Derived.Laws.MakeOwn
import Derived.Laws.OwnMore
import Derived.Deep.OwnRows
import Derived.Tactics
import Derived.Lib.ConvBytes
import Derived.Laws.Slices
import Derived.WalkKit
import Derived.KernelRfl
import Derived.RowKit3
import Derived.Deep.LoopGhost
import Derived.Deep.QuietTactic
import Derived.BigQuiet
import Derived.WideLaws
import Derived.Deep.DeepCutAuto
import Derived.Deep.CutBlock
import Derived.Deep.RegionHeld3
import Derived.Laws.Rows
import Derived.Lib.AppendStr
import Derived.ArgAppend
import Derived.Laws.IdiomCopy
import Derived.OrdersHeld
import Derived.Laws.BitsLemmas
import Derived.RowKit
import Derived.Test.YtaoiamifofkklaaWWords
import Derived.Test.YtaoiamifofkklaaWLast
import Derived.Test.YtaoiamifofkklaaWTab
import Derived.Test.YtaoiamifofkklaaWFour
import Derived.Test.YtaoiamifofkklaaWQPut
import Derived.Test.YtaoiamifofkklaaWApart
import Derived.Test.YtaoiamifofkklaaWArr
import Derived.Test.YtaoiamifofkklaaWZeros
import Derived.Test.YtaoiamifofkklaaWFoot
import Derived.Test.YtaoiamifofkklaaWKept
import Derived.Test.YtaoiamifofkklaaWShare
import Derived.Test.YtaoiamifofkklaaWN
import Derived.Test.YtaoiamifofkklaaWFootNe
import Derived.Test.YtaoiamifofkklaaWAt
import Derived.Test.YtaoiamifofkklaaWEqStruct
import Derived.Test.YtaoiamifofkklaaWRepsOne
import Derived.Test.YtaoiamifofkklaaWInv
import Derived.Test.YtaoiamifofkklaaWInvWords
import Derived.Test.YtaoiamifofkklaaWGuard
import Derived.Test.YtaoiamifofkklaaWNEv
import Derived.Test.YtaoiamifofkklaaWMore
import Derived.Test.YtaoiamifofkklaaX0Mem
import Derived.Test.YtaoiamifofkklaaX1Pure
import Derived.Test.YtaoiamifofkklaaXBitsJ
namespace Go.Proofs.Ytaoiamifofkklaa.Obj
open Go.RowKit Go.Proofs.YtaoiamifofkklaaW.PrintWords Go.Proofs.YtaoiamifofkklaaW.PrintLast Go.Proofs.YtaoiamifofkklaaW.PrintMore
set_option linter.unusedVariables false
set_option linter.unusedSimpArgs false
theorem Rr.drewN {w : World} {base B : Nat} {A : Option Addr} {len cap n : Nat} (h : Rr w base B A len cap n) (k : Nat) : Rr (w.drewN k) base B A len cap n := ⟨h.1, h.2⟩
theorem wrap_bit (b : Bool) : IntKind.u64.wrap (bitI b) = bitI b := by rw [x_wrap_u64']; cases b <;> decide
set_option maxHeartbeats 8000000 in
set_option maxRecDepth 100000 in
theorem rr_get0 (B base : Nat) (A : Option Addr) (len cap at_ wd : Nat) (bs : List Int) (w : World) (h : Rr w base B A len cap at_) (hC : ∀ W', Below base w W' → Kd.C (Kd.int .u8) W' A len bs) (hb : IsB bs) (hl : len ≤ 140737488351232) (ha : at_ + wd ≤ 8 * len) (hw : wd ≤ 64) :
    Calls Try.prog 42 #[.pointer (some ⟨B, 0, none⟩), .int .i64 wd] w fun e w' => e = .returned (.tuple #[.int .u64 (numB bs at_ wd), .int .i64 0]) ∧ Rr w' base B A len cap (at_ + wd) ∧ Kept w w' (fun k => k = B) ∧ Below base w w' := by
  have hu := Try.underlying69
  have HLE := Aside0.mk (rr_left B base A len cap at_ w h hl (by omega))
  have hle : wd ≤ 8 * len - at_ := by omega
  obtain ⟨m, hm⟩ : ∃ m, 8 * len - at_ = m := ⟨_, rfl⟩
  rw [hm] at HLE hle
  have HR := Aside0.mk h
  have HC := Aside0.mk hC
  have HB := Aside0.mk hb
  clear h hC hb hm
  go_enter Try.func42, Try.ntmps42
  go_wp2_with (go_at_call 46; refine HLE.out.mono ?_; rintro e w1 ⟨rfl, ⟨⟨nd, rfl⟩⟩⟩)
  go_loopw [6, 7] (fun v6 v7 wr => ∃ i : Nat, i ≤ wd ∧ v7 = .int .i64 i ∧ v6 = .int .u64 (numB bs at_ i) ∧ Aside0 (Rr wr base B A len cap (at_ + i)) ∧ Aside0 (Kept w wr (fun k => k = B)) ∧ Aside0 (Below base w wr)) (fun _ v7 _ => wd - (intOf v7).toNat)
  case atStart => exact ⟨0, Nat.zero_le _, rfl, rfl, ⟨HR.out⟩, ⟨(Kept.refl _ _).drewN nd⟩, ⟨pw_below_drewN (Below.refl _ _) nd⟩⟩
  case round =>
    obtain ⟨i, hi, rfl, rfl, KR, KK, KB⟩ := hrel
    by_cases hlt : i < wd
    · have hCn := HC.out wr KB.out
      have hlen : bs.length = len := hCn.1
      obtain ⟨ad, rfl, hc⟩ := (Kd.reads_of_C (enc := Value.int .u8) (d := (0 : Int)) (h1 := fun _ => rfl) hCn).2.2 (by omega)
      have g0 := (blk_cell KR.out.2 0).trans rfl
      have g1 := (blk_cell KR.out.2 1).trans rfl
      have f1 := blk_frozen KR.out.2 1
      obtain ⟨p, hp⟩ : ∃ p, at_ + i = p := ⟨_, rfl⟩
      rw [hp] at g1
      have hpl : p < 8 * len := by omega
      have hx := hc (p / 8) (by omega)
      have hyb : 0 ≤ bs.getD (p / 8) 0 ∧ bs.getD (p / 8) 0 < 256 := by
        have := HB.out.get (i := p / 8) (by omega)
        rw [List.getD_eq_getElem?_getD, List.getElem?_eq_getElem (show p / 8 < bs.length by omega)]
        exact this
      have hnum := numB_lt bs at_ i
      have hpow : 2 ^ i ≤ 2 ^ 63 := Nat.pow_le_pow_right (by omega) (by omega)
      have hbit : bitB bs p = (bs.getD (p / 8) 0).toNat.testBit (7 - p % 8) := rfl
      obtain ⟨b, hbb⟩ : ∃ b, bitB bs p = b := ⟨_, rfl⟩
      have hns : numB bs at_ (i + 1) = 2 * numB bs at_ i + b.toNat := by simp only [numB]; rw [hp, hbb]
      have hos := or_step_w (numB bs at_ i) b (by omega)
      obtain ⟨acc, hacc⟩ : ∃ acc, numB bs at_ i = acc := ⟨_, rfl⟩
      obtain ⟨y, hy⟩ : ∃ y, bs.getD (p / 8) 0 = y := ⟨_, rfl⟩
      rw [hacc] at hns hos hnum ⊢
      rw [hy] at hx hyb hbit
      obtain ⟨y, rfl⟩ : ∃ q : Nat, y = (q : Int) := ⟨y.toNat, by omega⟩
      rw [Int.toNat_natCast] at hbit
      have ha8 := and8 y (7 - p % 8) (by omega)
      rw [← hbit, hbb] at ha8
      have HNS := Aside0.mk hns
      have HOS := Aside0.mk hos
      have HP := Aside0.mk hp
      have hac : acc < 9223372036854775808 := by omega
      have t8 : ((p : Int) / 8).toNat = p / 8 := by omega
      have m8 : (7 - (p : Int) % 8).toNat = 7 - p % 8 := by omega
      have b8 : (p : Int) / 8 < (len : Int) := by omega
      clear hCn hc hnum hpow hbb hns hos hacc hy hbit hp hlen ha
      go_wp2
      go_region
      go_wp2
      go_roundw
      case rel =>
        refine ⟨i + 1, by omega, by simp, by rw [wrap_bit, HOS.out, HNS.out], ⟨?_⟩, ⟨((KK.out.setCell (p := ⟨B, 1, none⟩) (.inl rfl) _)).drew⟩, ⟨(KB.out.setCell (p := ⟨B, 1, none⟩) HR.out.1 _).drew⟩⟩
        have q := (KR.out.at (p + 1)).drew
        rw [Int.natCast_add] at q
        rw [show at_ + (i + 1) = p + 1 by have := HP.out; omega]
        exact q
      case measure => simp [intOf]; omega
    · obtain rfl : i = wd := by omega
      go_wp2
      go_ret2
      exact ⟨rfl, KR.out, KK.out, KB.out⟩
set_option maxHeartbeats 4000000 in
set_option maxRecDepth 100000 in
theorem rr_getF (B base : Nat) (A : Option Addr) (len cap at_ : Nat) (bs : List Int) (x : Int) (w : World) (h : Rr w base B A len cap at_) (hC : ∀ W', Below base w W' → Kd.C (Kd.int .u8) W' A len bs) (hb : IsB bs) (hl : len ≤ 140737488351232) (ha : at_ ≤ 8 * len) :
    Calls Try.prog 42 #[.pointer (some ⟨B, 0, none⟩), .int .i64 x] w fun e w' => e = .returned (.tuple #[.int .u64 (getN bs at_ x), .int .i64 (getE len at_ x)]) ∧ Rr w' base B A len cap (getP len at_ x) ∧ Below base w w' := by
  have hbl : bs.length = len := (hC w (Below.refl _ _)).1
  by_cases hz : getE len at_ x = 0
  · obtain ⟨h0, h1, h2⟩ := getE_zero hz
    obtain ⟨x, rfl⟩ : ∃ q : Nat, x = (q : Int) := ⟨x.toNat, by omega⟩
    have hn : getN bs at_ (x : Int) = numB bs at_ x := by unfold getN; rw [hbl, if_pos hz, Int.toNat_natCast]
    have hp : getP len at_ (x : Int) = at_ + x := by unfold getP; rw [if_pos hz, Int.toNat_natCast]
    rw [hz, hn, hp]
    refine (rr_get0 B base A len cap at_ x bs w h hC hb hl (by omega) (by omega)).mono ?_
    rintro e w' ⟨rfl, k1, _, k3⟩
    exact ⟨rfl, k1, k3⟩
  · have hn : getN bs at_ x = 0 := by unfold getN; rw [hbl, if_neg hz]
    have hp : getP len at_ x = at_ := by unfold getP; rw [if_neg hz]
    rw [hn, hp]
    have hu := Try.underlying69
    have HLE := Aside0.mk (rr_left B base A len cap at_ w h hl ha)
    have HR := Aside0.mk h
    by_cases hx : x < 0 ∨ 64 < x
    · have he : getE len at_ x = 1 := by unfold getE; rw [if_pos hx]
      rw [he]
      clear hn hp hz h he hC hbl
      by_cases h0 : x < 0
      · go_enter Try.func42, Try.ntmps42
        go_wp2
        go_ret2
        exact ⟨rfl, HR.out, Below.refl _ _⟩
      · have h64 : 64 < x := by omega
        go_enter Try.func42, Try.ntmps42
        go_wp2
        go_ret2
        exact ⟨rfl, HR.out, Below.refl _ _⟩
    · have hs : ((8 * len - at_ : Nat) : Int) < x := by
        apply Classical.byContradiction
        intro hc
        exact hz (by unfold getE; rw [if_neg hx, if_neg hc])
      have he : getE len at_ x = 3 := by unfold getE; rw [if_neg hx, if_pos hs]
      rw [he]
      obtain ⟨q, hq⟩ : ∃ q, 8 * len - at_ = q := ⟨_, rfl⟩
      rw [hq] at hs HLE
      have h0 : 0 ≤ x ∧ x ≤ 64 := by omega
      clear hn hp hz h he hq hx hC hbl
      go_enter Try.func42, Try.ntmps42
      go_wp2_with (go_at_call 46; refine HLE.out.mono ?_; rintro e w1 ⟨rfl, ⟨⟨nd, rfl⟩⟩⟩)
      go_ret2
      exact ⟨rfl, HR.out, pw_below_drewN (Below.refl _ _) nd⟩
theorem rr_get_i (B base : Nat) (A : Option Addr) (len cap at_ : Nat) (bs : List Int) (x : Int) (wd : Nat) (ex : x = (wd : Int)) (w : World) (h : Rr w base B A len cap at_) (hC : ∀ W', Below base w W' → Kd.C (Kd.int .u8) W' A len bs) (hb : IsB bs) (hl : len ≤ 140737488351232) (ha : at_ + wd ≤ 8 * len) (hw : wd ≤ 64) :
    Calls Try.prog 42 #[.pointer (some ⟨B, 0, none⟩), .int .i64 x] w fun e w' => e = .returned (.tuple #[.int .u64 (numB bs at_ wd), .int .i64 0]) ∧ Rr w' base B A len cap (at_ + wd) ∧ Kept w w' (fun k => k = B) ∧ Below base w w' := by
  subst ex
  exact rr_get0 B base A len cap at_ wd bs w h hC hb hl ha hw
set_option maxHeartbeats 8000000 in
set_option maxRecDepth 100000 in
theorem rr_end (B base : Nat) (A : Option Addr) (len cap at_ : Nat) (bs : List Int) (w : World) (h : Rr w base B A len cap at_) (hC : ∀ W', Below base w W' → Kd.C (Kd.int .u8) W' A len bs) (hb : IsB bs) (hl : len ≤ 140737488351232) (ha : at_ ≤ 8 * len) :
    Calls Try.prog 47 #[.pointer (some ⟨B, 0, none⟩)] w fun e w' => e = .returned (.int .i64 (endE bs at_)) ∧ Below w.heap.size w w' := by
  have hbl : bs.length = len := (hC w (Below.refl _ _)).1
  have hu := Try.underlying69
  have g0 := (blk_cell h.2 0).trans rfl
  have g1 := (blk_cell h.2 1).trans rfl
  have hbw : base ≤ w.heap.size := Nat.le_trans h.1 (Nat.le_of_lt (blk_lt h.2))
  have hend : endE bs at_ = if 8 ≤ 8 * len - at_ then 4 else if numB bs at_ (8 * len - at_) = 0 then 0 else 4 := by unfold endE; rw [hbl]
  have hR1 : Rr (w.alloc (.cells #[.slice A len cap, .int .i64 at_] 69)).drew w.heap.size w.heap.size A len cap at_ := ⟨Nat.le_refl _, blk_new _ _⟩
  have hB1 : Below w.heap.size w (w.alloc (.cells #[.slice A len cap, .int .i64 at_] 69)).drew := ((Below.refl _ w).alloc (Nat.le_refl _) _).drew
  have HL := Aside0.mk (fun (W : World) (h : Rr W w.heap.size w.heap.size A len cap at_) => rr_left w.heap.size w.heap.size A len cap at_ W h hl ha)
  have HG := Aside0.mk (fun (W : World) (h : Rr W w.heap.size w.heap.size A len cap at_) (hw : Below w.heap.size w W) (h8 : 8 * len - at_ < 8) => rr_get0 w.heap.size w.heap.size A len cap at_ (8 * len - at_) bs W h (fun W' hb' => hC W' ((hw.trans hb').mono hbw)) hb hl (by omega) (by omega))
  obtain ⟨m, hm⟩ : ∃ m, 8 * len - at_ = m := ⟨_, rfl⟩
  rw [hm] at HL HG hend
  have HR1 := Aside0.mk hR1
  have HB1 := Aside0.mk hB1
  have HE := Aside0.mk hend
  clear h hC hb hbl hend hm hR1 hB1
  go_enter Try.func47, Try.ntmps47
  go_wp2_with fail
  go_region
  generalize (w.alloc (.cells #[.slice A len cap, .int .i64 at_] 69)).drew = W1 at HR1 HB1 ⊢
  by_cases h8 : 8 ≤ m
  · go_wp2_with (go_at_call 46; refine (HL.out _ HR1.out).mono ?_; rintro e w1 ⟨rfl, ⟨⟨nd, rfl⟩⟩⟩)
    go_ret
    exact ⟨by rw [HE.out, if_pos h8]; rfl, pw_below_drewN HB1.out nd⟩
  · have h8' : m < 8 := by omega
    obtain ⟨q, hq⟩ : ∃ q, numB bs at_ m = q := ⟨_, rfl⟩
    rw [hq] at HG HE
    by_cases h0 : q = 0
    · subst h0
      go_wp2_with (first
        | (go_at_call 46; (with_reducible refine (HL.out _ HR1.out).mono ?_); rintro e w1 ⟨rfl, ⟨⟨nd, rfl⟩⟩⟩)
        | (go_at_call 46; (with_reducible refine (HL.out _ (HR1.out.drewN nd)).mono ?_); rintro e w1 ⟨rfl, ⟨⟨nd2, rfl⟩⟩⟩)
        | (go_at_call 42; refine (HG.out _ (HR1.out.drewN (nd + nd2)) (pw_below_drewN HB1.out (nd + nd2)) h8').mono ?_; rintro e w3 ⟨rfl, _, _, hb3⟩; have HB3 := Aside0.mk ((pw_below_drewN HB1.out (nd + nd2)).trans hb3); clear hb3))
      go_ret
      exact ⟨by rw [HE.out, if_neg h8]; rfl, HB3.out⟩
    · have hq0 : ((q : Int) != 0) = true := by rw [bne_iff_ne]; omega
      have hq1 : (q : Int) ≠ 0 := by omega
      clear hq
      go_wp2_with (first
        | (go_at_call 46; (with_reducible refine (HL.out _ HR1.out).mono ?_); rintro e w1 ⟨rfl, ⟨⟨nd, rfl⟩⟩⟩)
        | (go_at_call 46; (with_reducible refine (HL.out _ (HR1.out.drewN nd)).mono ?_); rintro e w1 ⟨rfl, ⟨⟨nd2, rfl⟩⟩⟩)
        | (go_at_call 42; refine (HG.out _ (HR1.out.drewN (nd + nd2)) (pw_below_drewN HB1.out (nd + nd2)) h8').mono ?_; rintro e w3 ⟨rfl, _, _, hb3⟩; have HB3 := Aside0.mk ((pw_below_drewN HB1.out (nd + nd2)).trans hb3); clear hb3))
      go_ret
      exact ⟨by rw [HE.out, if_neg h8, if_neg h0]; rfl, HB3.out⟩
theorem row_keptB {w wr w2 : World} {B : Nat} {v : Value} {xs : List Int} (h : Kd.R (Kd.int .u8) 5 wr w.heap.size (fun _ => True) v xs) (hk : Kept wr w2 (fun k => k = B)) (hB : B < w.heap.size) : Kd.R (Kd.int .u8) 5 w2 w.heap.size (fun _ => True) v xs := by
  obtain ⟨inner, ho⟩ := Kd.R_own h
  exact Kd.R_mono (Kd.R_kept (Kd.R_tight rfl h) hk (fun k hk' e => by have := own_base ho k hk'.symm; omega)) (fun _ _ => trivial)
theorem Rr.low {w2 w3 : World} {base B N : Nat} {A : Option Addr} {len cap n : Nat} (h : Rr w2 base B A len cap n) (hb : Below N w2 w3) (hB : B < N) : Rr w3 base B A len cap n := ⟨h.1, (hb.block B hB).trans h.2⟩
set_option maxHeartbeats 8000000 in
set_option maxRecDepth 100000 in
theorem rr_many0 (B base : Nat) (A : Option Addr) (len cap at_ m : Nat) (bs : List Int) (w : World) (h : Rr w base B A len cap at_) (hC : ∀ W', Below base w W' → Kd.C (Kd.int .u8) W' A len bs) (hb : IsB bs) (hl : len ≤ 140737488351232) (ha : at_ + 8 * m ≤ 8 * len) (hm : m ≤ 1024) :
    Calls Try.prog 44 #[.pointer (some ⟨B, 0, none⟩), .int .i64 m] w fun e w' => ∃ v1, e = .returned (.tuple #[v1, .int .i64 0]) ∧ Kd.R (Kd.int .u8) 5 w' w.heap.size (fun _ => True) v1 (bytesAt bs at_ m) ∧ Rr w' base B A len cap (at_ + 8 * m) ∧ Kept w w' (fun k => k = B) ∧ Below base w w' := by
  have hu := Try.underlying69
  have HLE := Aside0.mk (rr_left B base A len cap at_ w h hl (by omega))
  have hBlt := blk_lt h.2
  have hbw : base ≤ w.heap.size := Nat.le_trans h.1 (Nat.le_of_lt hBlt)
  have HR := Aside0.mk h
  have HC := Aside0.mk hC
  have HB := Aside0.mk hb
  have hle : 8 * m ≤ 8 * len - at_ := by omega
  obtain ⟨q, hq⟩ : ∃ q, 8 * len - at_ = q := ⟨_, rfl⟩
  rw [hq] at HLE hle
  clear h hC hb hq
  go_enter Try.func44, Try.ntmps44
  go_wp2_with (go_at_call 46; refine HLE.out.mono ?_; rintro e w1 ⟨rfl, ⟨⟨nd, rfl⟩⟩⟩)
  go_loopw [6, 7] (fun v6 v7 wr => ∃ i : Nat, i ≤ m ∧ v7 = .int .i64 i ∧ Aside0 (Kd.R (Kd.int .u8) 5 wr w.heap.size (fun _ => True) v6 (bytesAt bs at_ i)) ∧ Aside0 (Rr wr base B A len cap (at_ + 8 * i)) ∧ Aside0 (Kept w wr (fun k => k = B)) ∧ Aside0 (Below base w wr)) (fun _ v7 _ => m - (intOf v7).toNat)
  case atStart => exact ⟨0, Nat.zero_le _, rfl, ⟨Kd.R_nil _ _ _ _ _⟩, ⟨HR.out.drewN nd⟩, ⟨(Kept.refl _ _).drewN nd⟩, ⟨pw_below_drewN (Below.refl _ _) nd⟩⟩
  case round =>
    obtain ⟨i, hi, rfl, KO, KR, KK, KB⟩ := hrel
    by_cases hlt : i < m
    · have hn := numB_lt bs (at_ + 8 * i) 8
      have HS := Aside0.mk (bytesAt_succ bs at_ i)
      have HLN := Aside0.mk (bytesAt_len bs at_ i)
      have HT := Aside0.mk (rr_get_i B base A len cap (at_ + 8 * i) bs 8 8 rfl wr KR.out (fun W' hW => HC.out W' (KB.out.trans hW)) HB.out hl (by omega) (by omega))
      obtain ⟨A6, c6, rfl⟩ := Kd.R_slice KO.out
      obtain ⟨z, hz⟩ : ∃ z, numB bs (at_ + 8 * i) 8 = z := ⟨_, rfl⟩
      rw [hz] at hn HS HT
      have hsz : w.heap.size ≤ wr.heap.size := KK.out.1
      have hz256 : z < 256 := hn
      clear hz HLE hn
      go_wp2_with (first
        | (go_at_call 42; refine HT.out.mono ?_; rintro e w2 ⟨rfl, hR2, hK2, hB2⟩; have HR2 := Aside0.mk hR2; have HK2 := Aside0.mk hK2; have HB2 := Aside0.mk hB2; clear hR2 hK2 hB2)
        | ((with_reducible refine gate_dst (N := 35) rfl ?_); (refine x_append .u8 w.heap.size rfl (.tmp 31) (.tmp 34) 36 5 1 rfl Try.underlying36 bt_info (by decide) (.slice A6 (bytesAt bs at_ i).length c6) (bytesAt bs at_ i) [(z : Int)] (some ⟨w2.heap.size, 0, none⟩) 1 1 rfl rfl (Kd.R_below (row_keptB KO.out HK2.out hBlt) (below_alloc (Below.refl _ _) _)) (x_lit_C .u8 w2 5 [(z : Int)] (by simp)) (Below.refl w.heap.size _) (by simp; have := HK2.out.1; omega) (by rw [HLN.out]; omega) ?_); intro v1 w3 ho1 hb1 hg1 hn1; rw [← HS.out] at ho1; have HO := Aside0.mk ho1; have HB3 := Aside0.mk hb1; clear ho1 hb1 hg1 hn1))
      go_roundw
      case rel =>
        have hb3 : Below w.heap.size w2 w3 := ((Below.refl w.heap.size w2).alloc (by have := HK2.out.1; omega) _).trans HB3.out
        refine ⟨i + 1, by omega, by simp, HO, ⟨?_⟩, ⟨?_⟩, ⟨?_⟩⟩
        · have q := HR2.out.low hb3 hBlt
          exact q
        · exact kept_step (KK.out.then_ HK2.out (fun _ h => .inl h)) hb3
        · exact (KB.out.trans HB2.out).trans (hb3.mono hbw)
      case measure => simp [intOf]; omega
    · obtain rfl : i = m := by omega
      go_wp2
      go_ret2
      exact ⟨_, rfl, KO.out, KR.out, KK.out, KB.out⟩
set_option maxHeartbeats 4000000 in
set_option maxRecDepth 100000 in
theorem rr_manyF (B base : Nat) (A : Option Addr) (len cap at_ : Nat) (bs : List Int) (x : Int) (w : World) (h : Rr w base B A len cap at_) (hC : ∀ W', Below base w W' → Kd.C (Kd.int .u8) W' A len bs) (hb : IsB bs) (hl : len ≤ 140737488351232) (ha : at_ ≤ 8 * len) (hxw : -9223372036854775808 ≤ x ∧ x ≤ 9223372036854775807) :
    Calls Try.prog 44 #[.pointer (some ⟨B, 0, none⟩), .int .i64 x] w fun e w' => ∃ v1, e = .returned (.tuple #[v1, .int .i64 (manyE len at_ x)]) ∧ Kd.R (Kd.int .u8) 5 w' w.heap.size (fun _ => True) v1 (manyB bs at_ x) ∧ Rr w' base B A len cap (manyP len at_ x) ∧ Kept w w' (fun k => k = B) ∧ Below base w w' := by
  have hbl : bs.length = len := (hC w (Below.refl _ _)).1
  by_cases hz : manyE len at_ x = 0
  · obtain ⟨h0, h1, h2⟩ := manyE_zero hz
    obtain ⟨x, rfl⟩ : ∃ q : Nat, x = (q : Int) := ⟨x.toNat, by omega⟩
    have hn : manyB bs at_ (x : Int) = bytesAt bs at_ x := by unfold manyB; rw [hbl, if_pos hz, Int.toNat_natCast]
    have hp : manyP len at_ (x : Int) = at_ + 8 * x := by unfold manyP; rw [if_pos hz, Int.toNat_natCast]
    rw [hz, hn, hp]
    exact rr_many0 B base A len cap at_ x bs w h hC hb hl (by omega) (by omega)
  · have hn : manyB bs at_ x = [] := by unfold manyB; rw [hbl, if_neg hz]
    have hp : manyP len at_ x = at_ := by unfold manyP; rw [if_neg hz]
    rw [hn, hp]
    have hu := Try.underlying69
    have HLE := Aside0.mk (rr_left B base A len cap at_ w h hl ha)
    have HR := Aside0.mk h
    by_cases hx : x < 0 ∨ 1024 < x
    · have he : manyE len at_ x = 1 := by unfold manyE; rw [if_pos hx]
      rw [he]
      clear hn hp hz h he hC hbl
      by_cases h0 : x < 0
      · go_enter Try.func44, Try.ntmps44
        go_wp2
        go_ret2
        exact ⟨_, rfl, Kd.R_nil _ _ _ _ _, HR.out, Kept.refl _ _, Below.refl _ _⟩
      · have h64 : 1024 < x := by omega
        go_enter Try.func44, Try.ntmps44
        go_wp2
        go_ret2
        exact ⟨_, rfl, Kd.R_nil _ _ _ _ _, HR.out, Kept.refl _ _, Below.refl _ _⟩
    · have hs : ((8 * len - at_ : Nat) : Int) < 8 * x := by
        apply Classical.byContradiction
        intro hc
        exact hz (by unfold manyE; rw [if_neg hx, if_neg hc])
      have he : manyE len at_ x = 3 := by unfold manyE; rw [if_neg hx, if_pos hs]
      rw [he]
      obtain ⟨q, hq⟩ : ∃ q, 8 * len - at_ = q := ⟨_, rfl⟩
      rw [hq] at hs HLE
      have h0 : 0 ≤ x ∧ x ≤ 1024 := by omega
      clear hn hp hz h he hq hx hC hbl
      go_enter Try.func44, Try.ntmps44
      go_wp2_with (go_at_call 46; refine HLE.out.mono ?_; rintro e w1 ⟨rfl, ⟨⟨nd, rfl⟩⟩⟩)
      go_ret2
      exact ⟨_, rfl, Kd.R_nil _ _ _ _ _, HR.out.drewN nd, (Kept.refl _ _).drewN nd, pw_below_drewN (Below.refl _ _) nd⟩
theorem Rr.kept {w w1 : World} {base B B1 : Nat} {A : Option Addr} {len cap n : Nat} (h : Rr w base B A len cap n) (hk : Kept w w1 (fun k => k = B1)) (hB : B ≠ B1) : Rr w1 base B A len cap n := ⟨h.1, blk_kept h.2 hk hB⟩
end Go.Proofs.Ytaoiamifofkklaa.Obj
