/- Contracts of Go functions that the claims of this seat share. -/
import Derived.Test.YtbkchjiiaehhpaaProg
import Derived.Below
import Derived.Deep.Draws
import Derived.Deep.AppendLies
import Derived.Maps.AppendAt
import Derived.OwnWalk
import Derived.Laws.BytesArg
import Derived.Laws.MakeOwn
import Derived.Laws.OwnMore
import Derived.Deep.OwnRows
import Derived.Tactics
import Derived.Lib.ConvBytes
import Derived.Laws.Slices
import Derived.WalkKit
import Derived.KernelRfl
import Derived.RowKit3
import Derived.Deep.LoopGhost
import Derived.Deep.QuietTactic
import Derived.BigQuiet
import Derived.WideLaws
import Derived.Deep.DeepCutAuto
import Derived.Deep.CutBlock
import Derived.Deep.RegionHeld3
import Derived.Laws.Rows
import Derived.Lib.AppendStr
import Derived.ArgAppend
import Derived.Laws.IdiomCopy
import Derived.OrdersHeld
import Derived.Laws.BitsLemmas
import Derived.RowKit
import Derived.Test.YtbkchjiiaehhpaaWWords
import Derived.Test.YtbkchjiiaehhpaaWLast
import Derived.Test.YtbkchjiiaehhpaaWTab
import Derived.Test.YtbkchjiiaehhpaaWFour
import Derived.Test.YtbkchjiiaehhpaaWQPut
import Derived.Test.YtbkchjiiaehhpaaWApart
import Derived.Test.YtbkchjiiaehhpaaWArr
import Derived.Test.YtbkchjiiaehhpaaWZeros
import Derived.Test.YtbkchjiiaehhpaaWFoot
import Derived.Test.YtbkchjiiaehhpaaWKept
import Derived.Test.YtbkchjiiaehhpaaWShare
import Derived.Test.YtbkchjiiaehhpaaWN
import Derived.Test.YtbkchjiiaehhpaaWFootNe
import Derived.Test.YtbkchjiiaehhpaaWAt
import Derived.Test.YtbkchjiiaehhpaaWEqStruct
import Derived.Test.YtbkchjiiaehhpaaWRepsOne
import Derived.Test.YtbkchjiiaehhpaaWInv
import Derived.Test.YtbkchjiiaehhpaaWInvWords
import Derived.Test.YtbkchjiiaehhpaaWGuard
import Derived.Test.YtbkchjiiaehhpaaWNEv
import Derived.Test.YtbkchjiiaehhpaaWMore
import Derived.Test.YtbkchjiiaehhpaaX0Mem
import Derived.Test.YtbkchjiiaehhpaaX1Pure
import Derived.Test.YtbkchjiiaehhpaaXShaM
import Derived.Test.YtbkchjiiaehhpaaXShaN
import Derived.Test.YtbkchjiiaehhpaaXShaJ
namespace Go.Proofs.Ytbkchjiiaehhpaa.Obj
open Go.RowKit Go.Proofs.YtbkchjiiaehhpaaW.PrintWords Go.Proofs.YtbkchjiiaehhpaaW.PrintLast Go.Proofs.YtbkchjiiaehhpaaW.PrintMore
set_option linter.unusedVariables false
set_option linter.unusedSimpArgs false
open Go.Proofs.Ytbkchjiiaehhpaa.PShaH
theorem foldN_less (q : Nat) (l m : List Int) (s : W8) (h : 64 * q ≤ l.length) : foldN q (l ++ m) s = foldN q l s := by
  have e : l ++ m = l.take (64 * q) ++ (l.drop (64 * q) ++ m) := by rw [← List.append_assoc, List.take_append_drop]
  rw [e]
  exact foldN_front q l _ h q s (Nat.le_refl _)
/-- a digest of all these bytes -/
def DgA (W : World) (base D : Nat) (v : Value) (l : List Int) : Prop := Dg W base D v (foldN (l.length / 64) l IV) (tailL l) l.length
theorem dga_step (l xs : List Int) : foldN ((tailL l ++ xs).length / 64) (tailL l ++ xs) (foldN (l.length / 64) l IV) = foldN ((l ++ xs).length / 64) (l ++ xs) IV ∧ (tailL l ++ xs).drop (64 * ((tailL l ++ xs).length / 64)) = tailL (l ++ xs) := by
  have hk : 64 * (l.length / 64) ≤ l.length := by omega
  have ht := tailL_len l
  have hlen : (l ++ xs).length / 64 = l.length / 64 + (tailL l ++ xs).length / 64 := by
    rw [List.length_append, List.length_append, ht]
    omega
  have hd : (l ++ xs).drop (64 * (l.length / 64)) = tailL l ++ xs := by
    rw [List.drop_append_of_le_length hk]
    rfl
  constructor
  · rw [hlen, foldN_add, hd, foldN_less _ _ _ _ hk]
  · unfold tailL
    unfold tailL at hd hlen
    rw [hlen, Nat.mul_add, ← List.drop_drop, hd]
set_option maxRecDepth 100000 in
set_option maxHeartbeats 4000000 in
theorem sh_write (D base : Nat) (v : Value) (l : List Int) (m c : Nat) (A : Option Addr) (xs : List Int) (w : World) (h : DgA w base D v l) (hA : ∀ W', KeepBut w W' D none → Kd.C (Kd.int .u8) W' A m xs) (hx : IsB xs) (hxl : IsB l) (hmc : m ≤ c) (hn : l.length + m ≤ 1048576) :
    Calls Try.prog 19 #[.pointer (some ⟨D, 0, none⟩), .slice A m c] w fun e w' => ∃ v', e = .returned (.int .i64 0) ∧ DgA w' base D v' (l ++ xs) ∧ KeepBut w w' D none ∧ Below base w w' ∧ (∀ j, v'.ownBlock = some j → w.heap.size ≤ j ∨ v.ownBlock = some j) := by
  have hm : xs.length = m := (hA w (KeepBut.refl w D none)).1
  have hs := dga_step l xs
  have ht := tailL_len l
  have hlt : (tailL l).length < 64 := by omega
  have hll : (l ++ xs).length = l.length + m := by rw [List.length_append, hm]
  have htb : IsB (tailL l) := hxl.drop _
  unfold DgA at h ⊢
  rw [← hs.1, ← hs.2, hll]
  by_cases h0 : (tailL l).length = 0
  · have he := List.eq_nil_of_length_eq_zero h0
    rw [he] at h ⊢
    obtain ⟨AL, cL, rfl, _, _⟩ := h.2.2.reads
    refine (sh_write0 D base _ l.length m c A xs w h hA hx hmc hn).mono ?_
    rintro e w' ⟨v', rfl, hd, hn', hk, hb⟩
    refine ⟨v', rfl, ?_, hk, hb, fun j hj => .inl (hn' j hj)⟩
    rw [List.nil_append, hm]
    exact hd
  · by_cases h1 : (tailL l).length + m < 64
    · have hq : (tailL l ++ xs).length / 64 = 0 := by rw [List.length_append, hm]; omega
      rw [hq, foldN_zero, Nat.mul_zero, List.drop_zero]
      have go : Calls Try.prog 19 #[.pointer (some ⟨D, 0, none⟩), .slice A m c] w fun e w' => ∃ v', e = .returned (.int .i64 0) ∧ Dg w' base D v' (foldN (l.length / 64) l IV) (tailL l ++ xs) (l.length + m) ∧ KeepBut w w' D none ∧ Below base w w' ∧ (∀ j, v'.ownBlock = some j → w.heap.size ≤ j ∨ v.ownBlock = some j) := by
        by_cases h2 : m = 0
        · refine (sh_writeZ D base v _ (tailL l) l.length _ m 0 c A xs w h rfl (by omega) hlt hA hx htb hmc h2 h1 hn).mono ?_
          rintro e w' ⟨v', rfl, hd, hk, hb, hj⟩
          exact ⟨v', rfl, hd, hk, hb, fun j h => .inr (hj j h)⟩
        · refine (sh_write1 D base v _ (tailL l) l.length _ m 0 c A xs w h rfl (by omega) hlt hA hx htb hmc (by omega) h1 hn).mono ?_
          rintro e w' ⟨v', rfl, hd, hk, hb, hj⟩
          exact ⟨v', rfl, hd, hk, hb, fun j h => .inl (hj j h)⟩
      exact go
    · obtain ⟨k, hk⟩ : ∃ k, (tailL l).length + k = 64 := ⟨64 - (tailL l).length, by omega⟩
      refine (sh_write2 D base v _ (tailL l) l.length _ m k c A xs w h rfl (by omega) hlt hA hx htb hmc (by omega) hk hn).mono ?_
      rintro e w' ⟨v', rfl, hd, hkp, hb, hj⟩
      refine ⟨v', rfl, ?_, hkp, hb, fun j h => .inl (hj j h)⟩
      have hsp : tailL l ++ xs = (tailL l ++ xs.take k) ++ xs.drop k := by rw [List.append_assoc, List.take_append_drop]
      have hfl : (tailL l ++ xs.take k).length = 64 := by rw [List.length_append, List.length_take, hm]; omega
      have hq : (tailL l ++ xs).length / 64 = 1 + (m - k) / 64 := by rw [List.length_append, hm]; omega
      have hd1 : (tailL l ++ xs).drop 64 = xs.drop k := by rw [hsp]; exact List.drop_left' hfl
      have hf1 : ∀ s, foldN 1 (tailL l ++ xs) s = mixF KT (tailL l ++ xs.take k) s := fun s => by
        rw [show (1 : Nat) = 0 + 1 by rfl, foldN_succ, foldN_zero, Nat.mul_zero, List.drop_zero, hsp, List.take_left' hfl]
      rw [hq, foldN_add, Nat.mul_one, hd1, hf1, Nat.mul_add, Nat.mul_one, ← List.drop_drop, hd1]
      exact hd
theorem sh_sumA (D base : Nat) (v : Value) (l : List Int) (w : World) (h : DgA w base D v l) (hn : l.length ≤ 1048576) (hx : IsB l) :
    Calls Try.prog 20 #[.pointer (some ⟨D, 0, none⟩)] w fun e w' => ∃ v', e = .returned (.tuple #[v', .int .i64 0]) ∧ Kd.R (Kd.int .u8) 5 w' w.heap.size (fun _ => True) v' (digP l) ∧ Below w.heap.size w w' :=
  sh_sum D base v _ _ _ w h (by have := tailL_len l; omega) hn (hx.drop _)
theorem dg_argA {w0 w : World} {A : Option Addr} {m : Nat} {xs : List Int} {base D : Nat} {v : Value} {l : List Int} (h : Kd.C (Kd.int .u8) w0 A m xs) (hb : Below w0.heap.size w0 w) (hD : DgA w base D v l) (hle : w0.heap.size ≤ base) :
    ∀ W', KeepBut w W' D none → Kd.C (Kd.int .u8) W' A m xs := dg_arg h hb hD hle
theorem digP_len (l : List Int) : (digP l).length = 32 := by
  unfold digP w8B w8I
  simp [bytesBE_len]
theorem sc_empty0 (W : World) (e : TypeId) (base : Nat) (h : base ≤ W.heap.size) : Kd.R (Kd.int .u8) e (W.alloc (.cells #[] e)) base (fun _ => True) (.slice (some ⟨W.heap.size, 0, none⟩) 0 0) [] := Kd.R_lower (sc_empty W e) h
end Go.Proofs.Ytbkchjiiaehhpaa.Obj
