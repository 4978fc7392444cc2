/- Contracts of Go functions that the claims of this seat share. -/
import Derived.Test.YtaoiamifofkklaaProg
import Derived.Below
import Derived.Deep.Draws
import Derived.Deep.AppendLies
import Derived.Maps.AppendAt
import Derived.OwnWalk
import Derived.Laws.BytesArg
import Derived.Laws.MakeOwn
import Derived.Laws.OwnMore
import Derived.Deep.OwnRows
import Derived.Tactics
import Derived.Lib.ConvBytes
import Derived.Laws.Slices
import Derived.WalkKit
import Derived.KernelRfl
import Derived.RowKit3
import Derived.Deep.LoopGhost
import Derived.Deep.QuietTactic
import Derived.BigQuiet
import Derived.WideLaws
import Derived.Deep.DeepCutAuto
import Derived.Deep.CutBlock
import Derived.Deep.RegionHeld3
import Derived.Laws.Rows
import Derived.Lib.AppendStr
import Derived.ArgAppend
import Derived.Laws.IdiomCopy
import Derived.OrdersHeld
import Derived.Laws.BitsLemmas
import Derived.RowKit
import Derived.Test.YtaoiamifofkklaaWWords
import Derived.Test.YtaoiamifofkklaaWLast
import Derived.Test.YtaoiamifofkklaaWTab
import Derived.Test.YtaoiamifofkklaaWFour
import Derived.Test.YtaoiamifofkklaaWQPut
import Derived.Test.YtaoiamifofkklaaWApart
import Derived.Test.YtaoiamifofkklaaWArr
import Derived.Test.YtaoiamifofkklaaWZeros
import Derived.Test.YtaoiamifofkklaaWFoot
import Derived.Test.YtaoiamifofkklaaWKept
import Derived.Test.YtaoiamifofkklaaWShare
import Derived.Test.YtaoiamifofkklaaWN
import Derived.Test.YtaoiamifofkklaaWFootNe
import Derived.Test.YtaoiamifofkklaaWAt
import Derived.Test.YtaoiamifofkklaaWEqStruct
import Derived.Test.YtaoiamifofkklaaWRepsOne
import Derived.Test.YtaoiamifofkklaaWInv
import Derived.Test.YtaoiamifofkklaaWInvWords
import Derived.Test.YtaoiamifofkklaaWGuard
import Derived.Test.YtaoiamifofkklaaWNEv
import Derived.Test.YtaoiamifofkklaaWMore
import Derived.Test.YtaoiamifofkklaaX0Mem
import Derived.Test.YtaoiamifofkklaaX1Pure
import Derived.Test.YtaoiamifofkklaaXBitsC
namespace Go.Proofs.Ytaoiamifofkklaa.Obj
open Go.RowKit Go.Proofs.YtaoiamifofkklaaW.PrintWords Go.Proofs.YtaoiamifofkklaaW.PrintLast Go.Proofs.YtaoiamifofkklaaW.PrintMore
set_option linter.unusedVariables false
set_option linter.unusedSimpArgs false
/-! Bits in bytes. -/
def bitB (bs : List Int) (k : Nat) : Bool := (bs.getD (k / 8) 0).toNat.testBit (7 - k % 8)
def numB (bs : List Int) (at_ : Nat) : Nat → Nat
  | 0 => 0
  | i + 1 => 2 * numB bs at_ i + (bitB bs (at_ + i)).toNat
theorem numB_lt (bs : List Int) (at_ i : Nat) : numB bs at_ i < 2 ^ i := by
  induction i with
  | zero => simp [numB]
  | succ i ih => simp only [numB]; rw [Nat.pow_succ]; have := Bool.toNat_le (bitB bs (at_ + i)); omega
theorem or8 (y z : Nat) (hy : y < 256) (hz : z < 256) : Go.bits .or .u8 (y : Int) (z : Int) = ((y ||| z : Nat) : Int) := by
  have e1 : (y : Int) = ((BitVec.ofNat 8 y).toNat : Int) := by rw [BitVec.toNat_ofNat, Nat.mod_eq_of_lt (by omega)]
  have e2 : (z : Int) = ((BitVec.ofNat 8 z).toNat : Int) := by rw [BitVec.toNat_ofNat, Nat.mod_eq_of_lt (by omega)]
  rw [e1, e2, x_or8, BitVec.toNat_or, BitVec.toNat_ofNat, BitVec.toNat_ofNat, Nat.mod_eq_of_lt (by omega), Nat.mod_eq_of_lt (by omega)]
theorem or64 (y z : Nat) (hy : y < 18446744073709551616) (hz : z < 18446744073709551616) : Go.bits .or .u64 (y : Int) (z : Int) = ((y ||| z : Nat) : Int) := by
  have e1 : (y : Int) = ((BitVec.ofNat 64 y).toNat : Int) := by rw [BitVec.toNat_ofNat, Nat.mod_eq_of_lt (by omega)]
  have e2 : (z : Int) = ((BitVec.ofNat 64 z).toNat : Int) := by rw [BitVec.toNat_ofNat, Nat.mod_eq_of_lt (by omega)]
  rw [e1, e2, x_or64, BitVec.toNat_or, BitVec.toNat_ofNat, BitVec.toNat_ofNat, Nat.mod_eq_of_lt (by omega), Nat.mod_eq_of_lt (by omega)]
theorem or_one (a : Nat) (b : Bool) : 2 * a ||| b.toNat = 2 * a + b.toNat := by
  have h := Nat.two_pow_add_eq_or_of_lt (i := 1) (b := b.toNat) (by have := Bool.toNat_le b; omega) a
  rw [show 2 ^ 1 = 2 from rfl] at h
  rw [← h]
theorem bitI_nat (b : Bool) : bitI b = (b.toNat : Int) := by cases b <;> rfl
theorem or_step (a : Nat) (b : Bool) (ha : a < 9223372036854775808) : Go.bits .or .u64 ((a : Int) * 2 % 18446744073709551616) (bitI b) = ((2 * a + b.toNat : Nat) : Int) := by
  have e : (a : Int) * 2 % 18446744073709551616 = ((2 * a : Nat) : Int) := by omega
  rw [e, bitI_nat, or64 _ _ (by omega) (by have := Bool.toNat_le b; omega), or_one]
theorem pack_b (l : List Bool) : ∀ x ∈ pack l, 0 ≤ x ∧ x < 256 := by
  induction l using snoc_ind with
  | h0 => intro x hx; simp [pack, packP] at hx
  | hs l b ih =>
    intro x hx
    rw [pack_snoc] at hx
    unfold pushB push1 at hx
    have hb : ∀ z ∈ (if l.length % 8 = 0 then pack l ++ [0] else pack l), 0 ≤ z ∧ z < 256 := by
      intro z hz
      split at hz
      · rcases List.mem_append.1 hz with h | h
        · exact ih z h
        · rw [List.mem_singleton] at h; subst h; decide
      · exact ih z hz
    rcases List.mem_or_eq_of_mem_set hx with h | h
    · exact hb x h
    · subst h
      have hw : ∀ (u v : Int), 0 ≤ Go.bits .or .u8 u v ∧ Go.bits .or .u8 u v < 256 := by
        intro u v
        unfold Go.bits
        rw [IntKind.wrap_u8]
        omega
      exact hw _ _
theorem getD_zero (bs : List Int) (i : Nat) : (bs ++ [0]).getD i 0 = bs.getD i 0 := by
  rw [List.getD_eq_getElem?_getD, List.getD_eq_getElem?_getD]
  rcases Nat.lt_trichotomy i bs.length with h | h | h
  · rw [List.getElem?_append_left h]
  · subst h; simp
  · rw [List.getElem?_eq_none (by simp; omega), List.getElem?_eq_none (by omega)]
theorem bit_push (bs : List Int) (n : Nat) (x : Bool) (k : Nat) (hb : ∀ y ∈ bs, 0 ≤ y ∧ y < 256) (hlen : n / 8 < bs.length) (h0 : bitB bs n = false) : bitB (push1 bs n (bitI x)) k = if k = n then x else bitB bs k := by
  unfold push1
  obtain ⟨y, hy⟩ : ∃ y, bs.getD (n / 8) 0 = y := ⟨_, rfl⟩
  have hy2 : bs[n / 8] = y := by rw [← hy, List.getD_eq_getElem?_getD, List.getElem?_eq_getElem hlen]; rfl
  have hyb := hb y (by rw [← hy2]; exact List.getElem_mem hlen)
  obtain ⟨y, rfl⟩ : ∃ q : Nat, y = (q : Int) := ⟨y.toNat, by omega⟩
  have hz : bitI x * 2 ^ (7 - n % 8) % 256 = ((x.toNat * 2 ^ (7 - n % 8) : Nat) : Int) := by
    have hp : 2 ^ (7 - n % 8) ≤ 128 := by
      have : 7 - n % 8 ≤ 7 := by omega
      exact Nat.pow_le_pow_right (by omega) this
    have e0 : (2 : Int) ^ (7 - n % 8) = ((2 ^ (7 - n % 8) : Nat) : Int) := by simp
    rw [e0]
    generalize 2 ^ (7 - n % 8) = P at hp ⊢
    cases x
    · simp [bitI]
    · simp only [bitI, if_true, Bool.toNat_true, Nat.one_mul, Int.one_mul]
      omega
  have hzl : x.toNat * 2 ^ (7 - n % 8) < 256 := by
    have hp : 2 ^ (7 - n % 8) ≤ 128 := Nat.pow_le_pow_right (by omega) (show 7 - n % 8 ≤ 7 by omega)
    cases x
    · simp
    · simp; omega
  rw [hy, hz, or8 y _ (by omega) hzl]
  unfold bitB
  by_cases hk : k / 8 = n / 8
  · rw [hk, List.getD_eq_getElem?_getD, List.getElem?_set_self hlen]
    simp only [Option.getD_some, Int.toNat_natCast, Nat.testBit_or]
    rw [List.getD_eq_getElem?_getD, List.getElem?_eq_getElem hlen, hy2]
    simp only [Option.getD_some, Int.toNat_natCast]
    have ht : (x.toNat * 2 ^ (7 - n % 8)).testBit (7 - k % 8) = if k = n then x else false := by
      rw [← Nat.shiftLeft_eq, Nat.testBit_shiftLeft]
      by_cases e : k = n
      · subst e; simp; cases x <;> rfl
      · rw [if_neg e]
        have hne : k % 8 ≠ n % 8 := by omega
        by_cases hle : 7 - n % 8 ≤ 7 - k % 8
        · have : 0 < 7 - k % 8 - (7 - n % 8) := by omega
          have hx1 : x.toNat < 2 ^ (7 - k % 8 - (7 - n % 8)) := Nat.lt_of_le_of_lt (Bool.toNat_le x) (Nat.one_lt_two_pow (by omega))
          rw [Nat.testBit_lt_two_pow hx1]; simp
        · simp [hle]
    rw [ht]
    unfold bitB at h0
    rw [List.getD_eq_getElem?_getD, List.getElem?_eq_getElem hlen, hy2] at h0
    simp only [Option.getD_some, Int.toNat_natCast] at h0
    by_cases e : k = n
    · subst e; rw [if_pos rfl, if_pos rfl, h0]; simp
    · rw [if_neg e, if_neg e]; simp
  · rw [if_neg (by rintro rfl; exact hk rfl), List.getD_eq_getElem?_getD, List.getElem?_set_ne (Ne.symm hk), List.getD_eq_getElem?_getD]
theorem bit_pack (l : List Bool) : ∀ k, bitB (pack l) k = l.getD k false := by
  induction l using snoc_ind with
  | h0 => intro k; simp [pack, packP, bitB]
  | hs l b ih =>
    intro k
    rw [pack_snoc]
    have hb := pack_b l
    have hlen := pack_len l
    have h0 : bitB (pack l) l.length = false := by rw [ih, List.getD_eq_getElem?_getD, List.getElem?_eq_none (Nat.le_refl _)]; rfl
    have hfin : (if k = l.length then b else l.getD k false) = (l ++ [b]).getD k false := by
      rw [List.getD_eq_getElem?_getD, List.getD_eq_getElem?_getD]
      rcases Nat.lt_trichotomy k l.length with h | h | h
      · rw [if_neg (by omega), List.getElem?_append_left h]
      · subst h; simp
      · rw [if_neg (by omega), List.getElem?_eq_none (by omega), List.getElem?_eq_none (by simp; omega)]
    unfold pushB
    by_cases h8 : l.length % 8 = 0
    · have e : ∀ j, bitB (pack l ++ [0]) j = bitB (pack l) j := fun j => by unfold bitB; rw [getD_zero]
      rw [if_pos h8, bit_push _ _ _ _ (fun y hy => ?_) (by rw [List.length_append, hlen]; simp; omega) (by rw [e]; exact h0), e, ih]
      · exact hfin
      · rcases List.mem_append.1 hy with h | h
        · exact hb y h
        · rw [List.mem_singleton] at h; subst h; decide
    · rw [if_neg h8, bit_push _ _ _ _ hb (by rw [hlen]; omega) h0, ih]
      exact hfin
/-- a number out of its bits -/
theorem num_of (bs : List Int) (at_ n wd : Nat) (hn : n < 2 ^ wd) (h : ∀ i, i < wd → bitB bs (at_ + i) = n.testBit (wd - 1 - i)) : ∀ i, i ≤ wd → numB bs at_ i = n / 2 ^ (wd - i) := by
  intro i
  induction i with
  | zero => intro _; rw [Nat.sub_zero, Nat.div_eq_of_lt hn]; rfl
  | succ i ih =>
    intro hi
    simp only [numB]
    rw [ih (by omega), h i (by omega), show wd - 1 - i = wd - (i + 1) by omega, Nat.toNat_testBit]
    have e : n / 2 ^ (wd - i) = n / 2 ^ (wd - (i + 1)) / 2 := by
      rw [Nat.div_div_eq_div_mul, ← Nat.pow_succ]
      congr 2; omega
    rw [e]; omega
theorem num_all (bs : List Int) (at_ n wd : Nat) (hn : n < 2 ^ wd) (h : ∀ i, i < wd → bitB bs (at_ + i) = n.testBit (wd - 1 - i)) : numB bs at_ wd = n := by
  rw [num_of bs at_ n wd hn h wd (Nat.le_refl _), Nat.sub_self]; simp
end Go.Proofs.Ytaoiamifofkklaa.Obj
