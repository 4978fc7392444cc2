/- Contracts of Go functions that the claims of this seat share. -/
import Derived.Test.YtaoiamifofkklaaProg
import Derived.Below
import Derived.Deep.Draws
import Derived.Deep.AppendLies
import Derived.Maps.AppendAt
import Derived.OwnWalk
import Derived.Laws.BytesArg
import Derived.Laws.MakeOwn
import Derived.Laws.OwnMore
import Derived.Deep.OwnRows
import Derived.Tactics
import Derived.Lib.ConvBytes
import Derived.Laws.Slices
import Derived.WalkKit
import Derived.KernelRfl
import Derived.RowKit3
import Derived.Deep.LoopGhost
import Derived.Deep.QuietTactic
import Derived.BigQuiet
import Derived.WideLaws
import Derived.Deep.DeepCutAuto
import Derived.Deep.CutBlock
import Derived.Deep.RegionHeld3
import Derived.Laws.Rows
import Derived.Lib.AppendStr
import Derived.ArgAppend
import Derived.Laws.IdiomCopy
import Derived.OrdersHeld
import Derived.Laws.BitsLemmas
import Derived.RowKit
import Derived.Test.YtaoiamifofkklaaWWords
import Derived.Test.YtaoiamifofkklaaWLast
import Derived.Test.YtaoiamifofkklaaWTab
import Derived.Test.YtaoiamifofkklaaWFour
import Derived.Test.YtaoiamifofkklaaWQPut
import Derived.Test.YtaoiamifofkklaaWApart
import Derived.Test.YtaoiamifofkklaaWArr
import Derived.Test.YtaoiamifofkklaaWZeros
import Derived.Test.YtaoiamifofkklaaWFoot
import Derived.Test.YtaoiamifofkklaaWKept
import Derived.Test.YtaoiamifofkklaaWShare
import Derived.Test.YtaoiamifofkklaaWN
import Derived.Test.YtaoiamifofkklaaWFootNe
import Derived.Test.YtaoiamifofkklaaWAt
import Derived.Test.YtaoiamifofkklaaWEqStruct
import Derived.Test.YtaoiamifofkklaaWRepsOne
import Derived.Test.YtaoiamifofkklaaWInv
import Derived.Test.YtaoiamifofkklaaWInvWords
import Derived.Test.YtaoiamifofkklaaWGuard
import Derived.Test.YtaoiamifofkklaaWNEv
import Derived.Test.YtaoiamifofkklaaWMore
import Derived.Test.YtaoiamifofkklaaX0Mem
import Derived.Test.YtaoiamifofkklaaX1Pure
import Derived.Test.YtaoiamifofkklaaXBitsH
namespace Go.Proofs.Ytaoiamifofkklaa.Obj
open Go.RowKit Go.Proofs.YtaoiamifofkklaaW.PrintWords Go.Proofs.YtaoiamifofkklaaW.PrintLast Go.Proofs.YtaoiamifofkklaaW.PrintMore
set_option linter.unusedVariables false
set_option linter.unusedSimpArgs false
/-! what a reader answers: bytes, the place, an argument -/
def getE (n p : Nat) (x : Int) : Int := if x < 0 ∨ 64 < x then 1 else if ((8 * n - p : Nat) : Int) < x then 3 else 0
def getN (bs : List Int) (p : Nat) (x : Int) : Nat := if getE bs.length p x = 0 then numB bs p x.toNat else 0
def getP (n p : Nat) (x : Int) : Nat := if getE n p x = 0 then p + x.toNat else p
def manyE (n p : Nat) (x : Int) : Int := if x < 0 ∨ 1024 < x then 1 else if ((8 * n - p : Nat) : Int) < 8 * x then 3 else 0
def manyB (bs : List Int) (p : Nat) (x : Int) : List Int := if manyE bs.length p x = 0 then bytesAt bs p x.toNat else []
def manyP (n p : Nat) (x : Int) : Nat := if manyE n p x = 0 then p + 8 * x.toNat else p
def endE (bs : List Int) (p : Nat) : Int := if 8 ≤ 8 * bs.length - p then 4 else if numB bs p (8 * bs.length - p) = 0 then 0 else 4
theorem getE_zero {n p : Nat} {x : Int} (h : getE n p x = 0) : 0 ≤ x ∧ x ≤ 64 ∧ x ≤ ((8 * n - p : Nat) : Int) := by
  unfold getE at h
  split at h
  · cases h
  · split at h
    · cases h
    · omega
theorem manyE_zero {n p : Nat} {x : Int} (h : manyE n p x = 0) : 0 ≤ x ∧ x ≤ 1024 ∧ 8 * x ≤ ((8 * n - p : Nat) : Int) := by
  unfold manyE at h
  split at h
  · cases h
  · split at h
    · cases h
    · omega
theorem getP_le {n p : Nat} {x : Int} (h : p ≤ 8 * n) : getP n p x ≤ 8 * n := by
  unfold getP
  split
  · rename_i h0; have := getE_zero h0; omega
  · exact h
theorem manyP_le {n p : Nat} {x : Int} (h : p ≤ 8 * n) : manyP n p x ≤ 8 * n := by
  unfold manyP
  split
  · rename_i h0; have := manyE_zero h0; omega
  · exact h
theorem num_zero (bs : List Int) (p n : Nat) : numB bs p n = 0 ↔ ∀ i, i < n → bitB bs (p + i) = false := by
  induction n with
  | zero => exact ⟨fun _ i hi => by omega, fun _ => rfl⟩
  | succ n ih =>
    simp only [numB]
    constructor
    · intro h i hi
      have h0 : numB bs p n = 0 := by omega
      have h1 : (bitB bs (p + n)).toNat = 0 := by omega
      by_cases e : i = n
      · subst e; cases hb : bitB bs (p + i)
        · rfl
        · rw [hb] at h1; cases h1
      · exact ih.1 h0 i (by omega)
    · intro h
      rw [ih.2 (fun i hi => h i (by omega)), h n (by omega)]; rfl
set_option maxHeartbeats 4000000 in
set_option maxRecDepth 100000 in
theorem bt_getF (B base : Nat) (v : Value) (bs : List Int) (at_ : Nat) (x : Int) (w : World) (h : Rd w base B v bs at_) (hb : IsB bs) (hl : bs.length ≤ 140737488351232) (ha : at_ ≤ 8 * bs.length) :
    Calls Try.prog 38 #[.pointer (some ⟨B, 0, none⟩), .int .i64 x] w fun e w' => e = .returned (.tuple #[.int .u64 (getN bs at_ x), .int .i64 (getE bs.length at_ x)]) ∧ Rd w' base B v bs (getP bs.length at_ x) ∧ Kept w w' (fun k => k = B) ∧ Below base w w' := by
  by_cases hz : getE bs.length at_ x = 0
  · obtain ⟨h0, h1, h2⟩ := getE_zero hz
    obtain ⟨x, rfl⟩ : ∃ q : Nat, x = (q : Int) := ⟨x.toNat, by omega⟩
    have hn : getN bs at_ (x : Int) = numB bs at_ x := by unfold getN; rw [if_pos hz, Int.toNat_natCast]
    have hp : getP bs.length at_ (x : Int) = at_ + x := by unfold getP; rw [if_pos hz, Int.toNat_natCast]
    rw [hz, hn, hp]
    refine (bt_get B base v bs at_ x w h hb (by omega) (by omega) (by omega)).mono ?_
    rintro e w' ⟨rfl, h1, h2, h3⟩
    exact ⟨rfl, h1, h2, h3⟩
  · have hn : getN bs at_ x = 0 := by unfold getN; rw [if_neg hz]
    have hp : getP bs.length at_ x = at_ := by unfold getP; rw [if_neg hz]
    rw [hn, hp]
    have hu := Try.underlying112
    have g2 := (blk_cell h.2.1 2).trans rfl
    have HN := Aside0.mk (bt_none B w g2)
    have HLE := Aside0.mk (bt_left B base v bs at_ w h (by omega) ha)
    have HR := Aside0.mk h
    by_cases hx : x < 0 ∨ 64 < x
    · have he : getE bs.length at_ x = 1 := by unfold getE; rw [if_pos hx]
      rw [he]
      clear hn hp hz h g2 he
      by_cases h0 : x < 0
      · go_enter Try.func38, Try.ntmps38
        go_wp2_with (go_at_call 67; refine HN.out.mono ?_; rintro e w1 ⟨rfl, hw1⟩; obtain rfl : w = w1 := hw1.symm)
        go_ret2
        exact ⟨rfl, HR.out, Kept.refl _ _, Below.refl _ _⟩
      · have h64 : 64 < x := by omega
        go_enter Try.func38, Try.ntmps38
        go_wp2_with (go_at_call 67; refine HN.out.mono ?_; rintro e w1 ⟨rfl, hw1⟩; obtain rfl : w = w1 := hw1.symm)
        go_ret2
        exact ⟨rfl, HR.out, Kept.refl _ _, Below.refl _ _⟩
    · have hs : ((8 * bs.length - at_ : Nat) : Int) < x := by
        apply Classical.byContradiction
        intro hc
        exact hz (by unfold getE; rw [if_neg hx, if_neg hc])
      have he : getE bs.length at_ x = 3 := by unfold getE; rw [if_neg hx, if_pos hs]
      rw [he]
      obtain ⟨q, hq⟩ : ∃ q, 8 * bs.length - at_ = q := ⟨_, rfl⟩
      rw [hq] at hs HLE
      have h0 : 0 ≤ x ∧ x ≤ 64 := by omega
      clear hn hp hz h g2 he hq hx
      go_enter Try.func38, Try.ntmps38
      go_wp2_with (first
        | (go_at_call 67; refine HN.out.mono ?_; rintro e w1 ⟨rfl, hw1⟩; obtain rfl : w = w1 := hw1.symm)
        | (go_at_call 76; refine HLE.out.mono ?_; rintro e w1 ⟨rfl, ⟨⟨nd, rfl⟩⟩⟩))
      go_ret2
      exact ⟨rfl, HR.out.drewN nd, (Kept.refl _ _).drewN nd, pw_below_drewN (Below.refl _ _) nd⟩
set_option maxHeartbeats 4000000 in
set_option maxRecDepth 100000 in
theorem bt_rbytesF (B base : Nat) (v : Value) (bs : List Int) (at_ : Nat) (x : Int) (w : World) (h : Rd w base B v bs at_) (hb : IsB bs) (hl : bs.length ≤ 140737488351232) (ha : at_ ≤ 8 * bs.length) (hxw : -9223372036854775808 ≤ x ∧ x ≤ 9223372036854775807) :
    Calls Try.prog 43 #[.pointer (some ⟨B, 0, none⟩), .int .i64 x] w fun e w' => ∃ v1, e = .returned (.tuple #[v1, .int .i64 (manyE bs.length at_ x)]) ∧ Kd.R (Kd.int .u8) 5 w' w.heap.size (fun _ => True) v1 (manyB bs at_ x) ∧ Rd w' base B v bs (manyP bs.length at_ x) ∧ Kept w w' (fun k => k = B) ∧ Below base w w' := by
  by_cases hz : manyE bs.length at_ x = 0
  · obtain ⟨h0, h1, h2⟩ := manyE_zero hz
    obtain ⟨x, rfl⟩ : ∃ q : Nat, x = (q : Int) := ⟨x.toNat, by omega⟩
    have hn : manyB bs at_ (x : Int) = bytesAt bs at_ x := by unfold manyB; rw [if_pos hz, Int.toNat_natCast]
    have hp : manyP bs.length at_ (x : Int) = at_ + 8 * x := by unfold manyP; rw [if_pos hz, Int.toNat_natCast]
    rw [hz, hn, hp]
    refine (bt_rbytes B base v bs at_ x w h hb (by omega) (by omega) (by omega)).mono ?_
    rintro e w' ⟨v1, rfl, h0, h1, h2, h3⟩
    exact ⟨v1, rfl, h0, h1, h2, h3⟩
  · have hn : manyB bs at_ x = [] := by unfold manyB; rw [if_neg hz]
    have hp : manyP bs.length at_ x = at_ := by unfold manyP; rw [if_neg hz]
    rw [hn, hp]
    have hu := Try.underlying112
    have g2 := (blk_cell h.2.1 2).trans rfl
    have HN := Aside0.mk (bt_none B w g2)
    have HLE := Aside0.mk (bt_left B base v bs at_ w h (by omega) ha)
    have HR := Aside0.mk h
    by_cases hx : x < 0 ∨ 1024 < x
    · have he : manyE bs.length at_ x = 1 := by unfold manyE; rw [if_pos hx]
      rw [he]
      clear hn hp hz h g2 he
      by_cases h0 : x < 0
      · go_enter Try.func43, Try.ntmps43
        go_wp2_with (go_at_call 67; refine HN.out.mono ?_; rintro e w1 ⟨rfl, hw1⟩; obtain rfl : w = w1 := hw1.symm)
        go_ret2
        exact ⟨_, rfl, Kd.R_nil _ _ _ _ _, HR.out, Kept.refl _ _, Below.refl _ _⟩
      · have h64 : 1024 < x := by omega
        go_enter Try.func43, Try.ntmps43
        go_wp2_with (go_at_call 67; refine HN.out.mono ?_; rintro e w1 ⟨rfl, hw1⟩; obtain rfl : w = w1 := hw1.symm)
        go_ret2
        exact ⟨_, rfl, Kd.R_nil _ _ _ _ _, HR.out, Kept.refl _ _, Below.refl _ _⟩
    · have hs : ((8 * bs.length - at_ : Nat) : Int) < 8 * x := by
        apply Classical.byContradiction
        intro hc
        exact hz (by unfold manyE; rw [if_neg hx, if_neg hc])
      have he : manyE bs.length at_ x = 3 := by unfold manyE; rw [if_neg hx, if_pos hs]
      rw [he]
      obtain ⟨q, hq⟩ : ∃ q, 8 * bs.length - at_ = q := ⟨_, rfl⟩
      rw [hq] at hs HLE
      have h0 : 0 ≤ x ∧ x ≤ 1024 := by omega
      clear hn hp hz h g2 he hq hx
      go_enter Try.func43, Try.ntmps43
      go_wp2_with (first
        | (go_at_call 67; refine HN.out.mono ?_; rintro e w1 ⟨rfl, hw1⟩; obtain rfl : w = w1 := hw1.symm)
        | (go_at_call 76; refine HLE.out.mono ?_; rintro e w1 ⟨rfl, ⟨⟨nd, rfl⟩⟩⟩))
      go_ret2
      exact ⟨_, rfl, Kd.R_nil _ _ _ _ _, HR.out.drewN nd, (Kept.refl _ _).drewN nd, pw_below_drewN (Below.refl _ _) nd⟩
set_option maxHeartbeats 4000000 in
set_option maxRecDepth 100000 in
theorem bt_leftF (B base : Nat) (v : Value) (bs : List Int) (at_ : Nat) (w : World) (h : Rd w base B v bs at_) (hl : bs.length ≤ 140737488351232) (ha : at_ ≤ 8 * bs.length) :
    Calls Try.prog 45 #[.pointer (some ⟨B, 0, none⟩)] w fun e w' => e = .returned (.int .i64 ((8 * bs.length - at_ : Nat) : Int)) ∧ Drawn0 w w' := by
  have hu := Try.underlying112
  have g2 := (blk_cell h.2.1 2).trans rfl
  have HN := Aside0.mk (bt_none B w g2)
  have HLE := Aside0.mk (bt_left B base v bs at_ w h (by omega) ha)
  clear h g2
  go_enter Try.func45, Try.ntmps45
  go_wp2_with (first
    | (go_at_call 67; refine HN.out.mono ?_; rintro e w1 ⟨rfl, hw1⟩; obtain rfl : w = w1 := hw1.symm)
    | (go_at_call 76; refine HLE.out.mono ?_; rintro e w1 ⟨rfl, ⟨⟨nd, rfl⟩⟩⟩))
  go_ret
  exact ⟨rfl, ⟨⟨_, rfl⟩⟩⟩
set_option maxHeartbeats 4000000 in
set_option maxRecDepth 100000 in
theorem bt_endF (B base : Nat) (v : Value) (bs : List Int) (at_ : Nat) (w : World) (h : Rd w base B v bs at_) (hb : IsB bs) (hl : bs.length ≤ 140737488351232) (ha : at_ ≤ 8 * bs.length) :
    Calls Try.prog 39 #[.pointer (some ⟨B, 0, none⟩)] w fun e w' => e = .returned (.int .i64 (endE bs at_)) ∧ Drawn0 w w' := by
  have hu := Try.underlying112
  have hu2 := Try.underlying103
  have g2 := (blk_cell h.2.1 2).trans rfl
  obtain ⟨A0, cap, rfl, hlc, hC⟩ := Kd.R_reads h.2.2
  have HN := Aside0.mk (bt_none B w g2)
  have HLE := Aside0.mk (bt_left B base _ bs at_ w h (by omega) ha)
  have g0 := (blk_cell h.2.1 0).trans rfl
  have g1 := (blk_cell h.2.1 1).trans rfl
  have g3 := (blk_cell h.2.1 3).trans rfl
  have hend : endE bs at_ = if 8 ≤ 8 * bs.length - at_ then 4 else if numB bs at_ (8 * bs.length - at_) = 0 then 0 else 4 := rfl
  have hnz := num_zero bs at_ (8 * bs.length - at_)
  obtain ⟨n, hn⟩ : ∃ n, 8 * bs.length = n := ⟨_, rfl⟩
  have hn8 : n ≤ 1125899906809856 := by omega
  have HBIT := Aside0.mk (fun (q i : Nat) (hi : i < n) => bt_bit B A0 bs.length cap i bs (w.drewN q) g0 (Kd.C_below hC (pw_below_drewN (Below.refl _ _) q)) hb (by omega) (by omega))
  rw [hn] at HLE g1 ha hend hnz
  obtain ⟨m, hm⟩ : ∃ m, n - at_ = m := ⟨_, rfl⟩
  rw [hm] at HLE hend hnz
  have hmn : at_ + m = n := by omega
  have HE := Aside0.mk hend
  have HNZ := Aside0.mk hnz
  clear h hb hn hm hC hlc hend hnz
  by_cases h8 : 8 ≤ m
  · go_enter Try.func39, Try.ntmps39
    go_wp2_with (first
      | (go_at_call 67; refine HN.out.mono ?_; rintro e w1 ⟨rfl, hw1⟩; obtain rfl : w = w1 := hw1.symm)
      | (go_at_call 76; refine HLE.out.mono ?_; rintro e w1 ⟨rfl, ⟨⟨nd, rfl⟩⟩⟩))
    go_ret
    exact ⟨by rw [HE.out, if_pos h8]; rfl, ⟨⟨_, rfl⟩⟩⟩
  · have hlt8 : m < 8 := by omega
    go_enter Try.func39, Try.ntmps39
    go_wp2_with (first
      | (go_at_call 67; refine HN.out.mono ?_; rintro e w1 ⟨rfl, hw1⟩; obtain rfl : w = w1 := hw1.symm)
      | (go_at_call 76; refine HLE.out.mono ?_; rintro e w1 ⟨rfl, ⟨⟨nd, rfl⟩⟩⟩))
    go_loop [3] (fun v3 => ∃ i : Nat, i ≤ m ∧ v3 = .int .i64 ((at_ + i : Nat) : Int) ∧ Aside0 (∀ j, j < i → bitB bs (at_ + j) = false)) (fun v3 => n - (intOf v3).toNat)
    case atStart => exact ⟨0, Nat.zero_le _, rfl, ⟨fun j hj => by omega⟩⟩
    case round =>
      obtain ⟨i, hi, rfl, HZ⟩ := hrel
      by_cases hlt : i < m
      · have hb := HBIT.out nd (at_ + i) (by omega)
        have hlt2 : at_ + i < n := by omega
        obtain ⟨b, hbb⟩ : ∃ b, bitB bs (at_ + i) = b := ⟨_, rfl⟩
        rw [hbb] at hb
        have HBI := Aside0.mk hb
        have HBB := Aside0.mk hbb
        obtain ⟨k, hk⟩ : ∃ k, at_ + i = k := ⟨_, rfl⟩
        rw [hk] at HBI hlt2 ⊢
        have HK := Aside0.mk hk
        clear hb hbb hk
        cases b
        · go_wp2_with (go_at_call 78; refine HBI.out.mono ?_; rintro e w1 ⟨rfl, hw1⟩; subst hw1; unfold bitI; simp only [Bool.false_eq_true, if_false])
          go_round
          case rel =>
            refine ⟨i + 1, by omega, by rw [← HK.out]; simp; omega, ⟨fun j hj => ?_⟩⟩
            by_cases e : j = i
            · subst e; exact HBB.out
            · exact HZ.out j (by omega)
          case measure => simp [intOf]; omega
        · go_wp2_with (go_at_call 78; refine HBI.out.mono ?_; rintro e w1 ⟨rfl, hw1⟩; subst hw1; unfold bitI; simp only [if_true])
          go_ret
          refine ⟨?_, ⟨⟨_, rfl⟩⟩⟩
          rw [HE.out, if_neg h8, if_neg (fun h0 => by have := HNZ.out.1 h0 i hlt; rw [HBB.out] at this; cases this)]
          rfl
      · obtain rfl : i = m := by omega
        obtain ⟨k, hk⟩ : ∃ k, at_ + i = k := ⟨_, rfl⟩
        rw [hk] at hmn ⊢
        obtain rfl : k = n := hmn
        clear hk
        go_wp2
        go_ret
        exact ⟨by rw [HE.out, if_neg h8, if_pos (HNZ.out.2 HZ.out)]; rfl, ⟨⟨_, rfl⟩⟩⟩
/-! The reference's reader. -/
def Rr (w : World) (base B : Nat) (A : Option Addr) (len cap at_ : Nat) : Prop := base ≤ B ∧ w.heap[B]? = some (.cells #[.slice A len cap, .int .i64 at_] 69 (0, 0))
theorem Rr.below {w w' : World} {base B : Nat} {A : Option Addr} {len cap n : Nat} (h : Rr w base B A len cap n) (hb : Below w.heap.size w w') : Rr w' base B A len cap n := ⟨h.1, blk_below h.2 hb⟩
theorem Rr.drew {w : World} {base B : Nat} {A : Option Addr} {len cap n : Nat} (h : Rr w base B A len cap n) : Rr w.drew base B A len cap n := ⟨h.1, h.2⟩
theorem Rr.at {w : World} {base B : Nat} {A : Option Addr} {len cap n : Nat} (h : Rr w base B A len cap n) (m : Nat) : Rr (w.setCell ⟨B, 1, none⟩ (.int .i64 m)) base B A len cap m :=
  ⟨h.1, by have q := h.2; simp [World.setCell, Array.getElem?_modify, q]⟩
set_option maxHeartbeats 4000000 in
set_option maxRecDepth 100000 in
theorem rr_left (B base : Nat) (A : Option Addr) (len cap at_ : Nat) (w : World) (h : Rr w base B A len cap at_) (hl : len ≤ 140737488351232) (ha : at_ ≤ 8 * len) :
    Calls Try.prog 46 #[.pointer (some ⟨B, 0, none⟩)] w fun e w' => e = .returned (.int .i64 ((8 * len - at_ : Nat) : Int)) ∧ Drawn0 w w' := by
  have hu := Try.underlying69
  have g0 := (blk_cell h.2 0).trans rfl
  have g1 := (blk_cell h.2 1).trans rfl
  have hw8 : wrap64 (8 * (len : Int)) = 8 * (len : Int) := x_w64 (by omega) (by omega)
  have he : ((8 * len - at_ : Nat) : Int) = 8 * (len : Int) - at_ := by omega
  have HE := Aside0.mk he
  clear h he hw8
  go_enter Try.func46, Try.ntmps46
  go_wp2
  go_quiet (fail)
  go_wp2
  go_ret
  exact ⟨by rw [HE.out]; rfl, ⟨⟨_, rfl⟩⟩⟩
theorem and8 (y k : Nat) (h : y < 256) : Go.bits .and .u8 ((y : Int) / 2 ^ k) 1 = bitI (y.testBit k) := by
  have hle : y / 2 ^ k ≤ y := Nat.div_le_self _ _
  have e1 : (y : Int) / 2 ^ k = ((BitVec.ofNat 8 (y / 2 ^ k)).toNat : Int) := by
    rw [BitVec.toNat_ofNat, Nat.mod_eq_of_lt (by omega)]; simp
  have e2 : (1 : Int) = ((1#8).toNat : Int) := rfl
  rw [e1, e2, x_and8, BitVec.toNat_and, BitVec.toNat_ofNat, Nat.mod_eq_of_lt (show y / 2 ^ k < 2 ^ 8 by omega), show (1#8).toNat = 1 from rfl, Nat.and_one_is_mod, Nat.testBit_eq_decide_div_mod_eq]
  unfold bitI
  rcases Nat.mod_two_eq_zero_or_one (y / 2 ^ k) with h | h <;> rw [h] <;> rfl
end Go.Proofs.Ytaoiamifofkklaa.Obj
