/- Contracts of Go functions that the claims of this seat share. -/
import Derived.Test.YtaoiamifofkklaaProg
import Derived.Below
import Derived.Deep.Draws
import Derived.Deep.AppendLies
import Derived.Maps.AppendAt
import Derived.OwnWalk
import Derived.Laws.BytesArg
import Derived.Laws.MakeOwn
import Derived.Laws.OwnMore
import Derived.Deep.OwnRows
import Derived.Tactics
import Derived.Lib.ConvBytes
import Derived.Laws.Slices
import Derived.WalkKit
import Derived.KernelRfl
import Derived.RowKit3
import Derived.Deep.LoopGhost
import Derived.Deep.QuietTactic
import Derived.BigQuiet
import Derived.WideLaws
import Derived.Deep.DeepCutAuto
import Derived.Deep.CutBlock
import Derived.Deep.RegionHeld3
import Derived.Laws.Rows
import Derived.Lib.AppendStr
import Derived.ArgAppend
import Derived.Laws.IdiomCopy
import Derived.OrdersHeld
import Derived.Laws.BitsLemmas
import Derived.RowKit
import Derived.Test.YtaoiamifofkklaaWWords
import Derived.Test.YtaoiamifofkklaaWLast
import Derived.Test.YtaoiamifofkklaaWTab
import Derived.Test.YtaoiamifofkklaaWFour
import Derived.Test.YtaoiamifofkklaaWQPut
import Derived.Test.YtaoiamifofkklaaWApart
import Derived.Test.YtaoiamifofkklaaWArr
import Derived.Test.YtaoiamifofkklaaWZeros
import Derived.Test.YtaoiamifofkklaaWFoot
import Derived.Test.YtaoiamifofkklaaWKept
import Derived.Test.YtaoiamifofkklaaWShare
import Derived.Test.YtaoiamifofkklaaWN
import Derived.Test.YtaoiamifofkklaaWFootNe
import Derived.Test.YtaoiamifofkklaaWAt
import Derived.Test.YtaoiamifofkklaaWEqStruct
import Derived.Test.YtaoiamifofkklaaWRepsOne
import Derived.Test.YtaoiamifofkklaaWInv
import Derived.Test.YtaoiamifofkklaaWInvWords
import Derived.Test.YtaoiamifofkklaaWGuard
import Derived.Test.YtaoiamifofkklaaWNEv
import Derived.Test.YtaoiamifofkklaaWMore
import Derived.Test.YtaoiamifofkklaaX0Mem
import Derived.Test.YtaoiamifofkklaaX1Pure
import Derived.Test.YtaoiamifofkklaaXBitsH
namespace Go.Proofs.Ytaoiamifofkklaa.Obj
open Go.RowKit Go.Proofs.YtaoiamifofkklaaW.PrintWords Go.Proofs.YtaoiamifofkklaaW.PrintLast Go.Proofs.YtaoiamifofkklaaW.PrintMore
set_option linter.unusedVariables false
set_option linter.unusedSimpArgs false
theorem WrL.below {w w' : World} {base B : Nat} {v : Value} {l : List Bool} (h : WrL w base B v l) (hb : Below w.heap.size w w') : WrL w' base B v l := ⟨h.1, blk_below h.2.1 hb, Kd.R_below h.2.2 hb⟩
theorem WrL.ne2 {w : World} {base base' B B' : Nat} {v v' : Value} {l l' : List Bool} (h : WrL w base B v l) (k : WrL w base' B' v' l') : some B ≠ v'.ownBlock := by
  obtain ⟨inner, ho⟩ := Kd.R_own k.2.2
  exact own_ne ho h.2.1 (by decide)
/-- two writers that share nothing -/
def Two (w : World) (b1 B1 : Nat) (v1 : Value) (L1 : List Bool) (b2 B2 : Nat) (v2 : Value) (L2 : List Bool) : Prop := WrL w b1 B1 v1 L1 ∧ WrL w b2 B2 v2 L2 ∧ B1 ≠ B2 ∧ ∀ k, v2.ownBlock = some k → v1.ownBlock ≠ some k
theorem Two.step1 {w w' : World} {b1 B1 b2 B2 : Nat} {v1 v2 v1' : Value} {L1 L2 L1' : List Bool} (h : Two w b1 B1 v1 L1 b2 B2 v2 L2) (h1 : WrL w' b1 B1 v1' L1') (k : Mv B1 v1 w v1' w') : Two w' b1 B1 v1' L1' b2 B2 v2 L2 := by
  obtain ⟨a, b, hB, ho⟩ := h
  refine ⟨h1, b.keep (base' := 0) k hB.symm (b.ne2 a) (a.ne2 b) ho, hB, fun j hj e => ?_⟩
  rcases k.2 with h2 | ⟨q, h2, h3⟩
  · exact ho j hj (h2 ▸ e)
  · obtain ⟨inner, hw⟩ := Kd.R_own b.2.2
    have := own_lt hw j hj
    rw [h2] at e
    injection e with e
    omega
theorem Two.symm {w : World} {b1 B1 b2 B2 : Nat} {v1 v2 : Value} {L1 L2 : List Bool} (h : Two w b1 B1 v1 L1 b2 B2 v2 L2) : Two w b2 B2 v2 L2 b1 B1 v1 L1 := ⟨h.2.1, h.1, h.2.2.1.symm, fun k hk e => h.2.2.2 k e hk⟩
theorem Two.step2 {w w' : World} {b1 B1 b2 B2 : Nat} {v1 v2 v2' : Value} {L1 L2 L2' : List Bool} (h : Two w b1 B1 v1 L1 b2 B2 v2 L2) (h1 : WrL w' b2 B2 v2' L2') (k : Mv B2 v2 w v2' w') : Two w' b1 B1 v1 L1 b2 B2 v2' L2' := (h.symm.step1 h1 k).symm
theorem Two.below {w w' : World} {b1 B1 b2 B2 : Nat} {v1 v2 : Value} {L1 L2 : List Bool} (h : Two w b1 B1 v1 L1 b2 B2 v2 L2) (hb : Below w.heap.size w w') : Two w' b1 B1 v1 L1 b2 B2 v2 L2 := ⟨h.1.below hb, h.2.1.below hb, h.2.2⟩
theorem s_run8 {w : World} {A : Option Addr} {n : Nat} {l : List Int} (c : Nat) (h : Kd.C (Kd.int .u8) w A n l) : ∀ w', Below w.heap.size w w' → (convert 36 9 (.slice A n c)).run Try.prog w' = .ok (.string (strOfNums l)) w' := by
  intro w' hb
  have hl := h.1
  subst hl
  exact Kd.C_string (P := Try.prog) (A := A) (c := c) Try.underlying36 Try.underlying5 Try.underlying9 (Kd.C_below h hb)
theorem s_own8 {w : World} {base : Nat} {v : Value} {l : List Int} (h : Kd.R (Kd.int .u8) 5 w base (fun _ => True) v l) : ∀ w', Below w.heap.size w w' → (convert 36 9 v).run Try.prog w' = .ok (.string (strOfNums l)) w' := by
  intro w' hb
  exact own_string (P := Try.prog) Try.underlying36 Try.underlying5 Try.underlying9 (Kd.own_of_R (Kd.R_below h hb))
theorem wr_arg {w0 w : World} {A : Option Addr} {m : Nat} {xs : List Int} {base B : Nat} {v : Value} {l : List Bool} (h : Kd.C (Kd.int .u8) w0 A m xs) (hb : Below w0.heap.size w0 w) (hF : WrL w base B v l) (hle : w0.heap.size ≤ base) :
    ∀ v' W', Mv B v w v' W' → Kd.C (Kd.int .u8) W' A m xs := by
  intro v' W' hk
  refine Kd.C_kept_came (Kd.heap_int .u8) h hb (S := fun k => k = B ∨ some k = v.ownBlock) ?_ W' hk.1
  rintro k (rfl | hk)
  · exact Nat.le_trans hle hF.1
  · obtain ⟨inner, ho⟩ := Kd.R_own hF.2.2
    exact Nat.le_trans hle (own_base ho k hk.symm)
theorem bits_get (n w i : Nat) (h : i < w) : (bitsOf n w).getD i false = n.testBit (w - 1 - i) := by
  unfold bitsOf
  rw [List.getD_eq_getElem?_getD, List.getElem?_map, List.getElem?_range h]; rfl
theorem bytes_there (q : List Bool) (xs : List Int) (hb : ∀ x ∈ xs, 0 ≤ x ∧ x < 256) : bytesAt (pack (q ++ bytesBits xs)) q.length xs.length = xs := by
  apply List.ext_getElem
  · rw [bytesAt_len]
  · intro i h1 h2
    have hx := hb _ (List.getElem_mem h2)
    simp only [bytesAt, List.getElem_map, List.getElem_range]
    have e : numB (pack (q ++ bytesBits xs)) (q.length + 8 * i) 8 = (xs[i]).toNat := by
      refine num_all _ _ _ _ (by omega) (fun j hj => ?_)
      have hs : bytesBits xs = bytesBits (xs.take i) ++ (bitsOf (xs[i]).toNat 8 ++ bytesBits (xs.drop (i + 1))) := by
        have e0 : xs = xs.take i ++ (xs[i] :: xs.drop (i + 1)) := by rw [List.getElem_cons_drop, List.take_append_drop]
        conv => lhs; rw [e0]
        unfold bytesBits
        rw [List.flatMap_append, List.flatMap_cons]
      have hl : (bytesBits (xs.take i)).length = 8 * i := by rw [bytesBits_len, List.length_take]; omega
      rw [bit_pack, hs, ← bits_get _ _ _ hj, List.getD_eq_getElem?_getD, List.getElem?_append_right (by omega), List.getElem?_append_right (by omega), List.getElem?_append_left (by rw [bitsOf_len]; omega), ← List.getD_eq_getElem?_getD]
      congr 1; omega
    rw [e]; omega
end Go.Proofs.Ytaoiamifofkklaa.Obj
