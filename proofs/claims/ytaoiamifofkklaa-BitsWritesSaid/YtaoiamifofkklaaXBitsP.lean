/- Contracts of Go functions that the claims of this seat share. -/
import Derived.Test.YtaoiamifofkklaaProg
import Derived.Below
import Derived.Deep.Draws
import Derived.Deep.AppendLies
import Derived.Maps.AppendAt
import Derived.OwnWalk
import Derived.Laws.BytesArg
import Derived.Laws.MakeOwn
import Derived.Laws.OwnMore
import Derived.Deep.OwnRows
import Derived.Tactics
import Derived.Lib.ConvBytes
import Derived.Laws.Slices
import Derived.WalkKit
import Derived.KernelRfl
import Derived.RowKit3
import Derived.Deep.LoopGhost
import Derived.Deep.QuietTactic
import Derived.BigQuiet
import Derived.WideLaws
import Derived.Deep.DeepCutAuto
import Derived.Deep.CutBlock
import Derived.Deep.RegionHeld3
import Derived.Laws.Rows
import Derived.Lib.AppendStr
import Derived.ArgAppend
import Derived.Laws.IdiomCopy
import Derived.OrdersHeld
import Derived.Laws.BitsLemmas
import Derived.RowKit
import Derived.Test.YtaoiamifofkklaaWWords
import Derived.Test.YtaoiamifofkklaaWLast
import Derived.Test.YtaoiamifofkklaaWTab
import Derived.Test.YtaoiamifofkklaaWFour
import Derived.Test.YtaoiamifofkklaaWQPut
import Derived.Test.YtaoiamifofkklaaWApart
import Derived.Test.YtaoiamifofkklaaWArr
import Derived.Test.YtaoiamifofkklaaWZeros
import Derived.Test.YtaoiamifofkklaaWFoot
import Derived.Test.YtaoiamifofkklaaWKept
import Derived.Test.YtaoiamifofkklaaWShare
import Derived.Test.YtaoiamifofkklaaWN
import Derived.Test.YtaoiamifofkklaaWFootNe
import Derived.Test.YtaoiamifofkklaaWAt
import Derived.Test.YtaoiamifofkklaaWEqStruct
import Derived.Test.YtaoiamifofkklaaWRepsOne
import Derived.Test.YtaoiamifofkklaaWInv
import Derived.Test.YtaoiamifofkklaaWInvWords
import Derived.Test.YtaoiamifofkklaaWGuard
import Derived.Test.YtaoiamifofkklaaWNEv
import Derived.Test.YtaoiamifofkklaaWMore
import Derived.Test.YtaoiamifofkklaaX0Mem
import Derived.Test.YtaoiamifofkklaaX1Pure
import Derived.Test.YtaoiamifofkklaaXBitsO
import Derived.Test.YtaoiamifofkklaaXBitsI
namespace Go.Proofs.Ytaoiamifofkklaa.Obj
open Go.RowKit Go.Proofs.YtaoiamifofkklaaW.PrintWords Go.Proofs.YtaoiamifofkklaaW.PrintLast Go.Proofs.YtaoiamifofkklaaW.PrintMore
set_option linter.unusedVariables false
set_option linter.unusedSimpArgs false
theorem Wv.keep {w w' : World} {base B B' : Nat} {v v1 v' : Value} {l : List Bool} (h : Wv w base B v l) (k : Mv B' v1 w v' w') (hB : B ≠ B') (hBo : some B ≠ v1.ownBlock) (hoB : some B' ≠ v.ownBlock) (hoo : ∀ k, v.ownBlock = some k → v1.ownBlock ≠ some k) : Wv w' base B v l := by
  refine ⟨h.1, blk_kept h.2.1 k.1 (fun e => ?_), Kd.R_mono (Kd.R_kept (Kd.R_tight rfl h.2.2) k.1 (fun j hj e => ?_)) (fun _ _ => trivial)⟩
  · rcases e with rfl | e
    · exact hB rfl
    · exact hBo e
  · rcases e with rfl | e
    · exact hoB hj
    · exact hoo j hj.symm e.symm
/-- the program's writer and the reference's, sharing nothing -/
def Duo (w : World) (b1 B1 : Nat) (v1 : Value) (L1 : List Bool) (b2 B2 : Nat) (v2 : Value) (L2 : List Bool) : Prop := WrL w b1 B1 v1 L1 ∧ Wv w b2 B2 v2 L2 ∧ B1 ≠ B2 ∧ ∀ k, v2.ownBlock = some k → v1.ownBlock ≠ some k
theorem duo_fst {w : World} {b1 B1 b2 B2 : Nat} {v1 v2 : Value} {L1 L2 : List Bool} (h : Duo w b1 B1 v1 L1 b2 B2 v2 L2) : WrL w b1 B1 v1 L1 := h.1
theorem duo_snd {w : World} {b1 B1 b2 B2 : Nat} {v1 v2 : Value} {L1 L2 : List Bool} (h : Duo w b1 B1 v1 L1 b2 B2 v2 L2) : Wv w b2 B2 v2 L2 := h.2.1
theorem duo_ne1 {w : World} {b1 B1 b2 B2 : Nat} {v1 v2 : Value} {L1 L2 : List Bool} (h : Duo w b1 B1 v1 L1 b2 B2 v2 L2) : some B1 ≠ v2.ownBlock := by
  obtain ⟨inner, ho⟩ := Kd.R_own h.2.1.2.2
  exact own_ne ho h.1.2.1 (by decide)
theorem duo_ne2 {w : World} {b1 B1 b2 B2 : Nat} {v1 v2 : Value} {L1 L2 : List Bool} (h : Duo w b1 B1 v1 L1 b2 B2 v2 L2) : some B2 ≠ v1.ownBlock := by
  obtain ⟨inner, ho⟩ := Kd.R_own h.1.2.2
  exact own_ne ho h.2.1.2.1 (by decide)
theorem Duo.step1 {w w' : World} {b1 B1 b2 B2 : Nat} {v1 v2 v1' : Value} {L1 L2 L1' : List Bool} (h : Duo w b1 B1 v1 L1 b2 B2 v2 L2) (h1 : WrL w' b1 B1 v1' L1') (k : Mv B1 v1 w v1' w') : Duo w' b1 B1 v1' L1' b2 B2 v2 L2 := by
  have n1 := duo_ne1 h
  have n2 := duo_ne2 h
  obtain ⟨a, b, hB, ho⟩ := h
  refine ⟨h1, b.keep k hB.symm n2 n1 ho, hB, fun j hj e => ?_⟩
  rcases k.2 with h2 | ⟨q, h2, h3⟩
  · exact ho j hj (h2 ▸ e)
  · obtain ⟨inner, hw⟩ := Kd.R_own b.2.2
    have := own_lt hw j hj
    rw [h2] at e
    injection e with e
    omega
theorem Duo.step2 {w w' : World} {b1 B1 b2 B2 : Nat} {v1 v2 v2' : Value} {L1 L2 L2' : List Bool} (h : Duo w b1 B1 v1 L1 b2 B2 v2 L2) (h1 : Wv w' b2 B2 v2' L2') (k : Mv B2 v2 w v2' w') : Duo w' b1 B1 v1 L1 b2 B2 v2' L2' := by
  have n1 := duo_ne1 h
  have n2 := duo_ne2 h
  obtain ⟨a, b, hB, ho⟩ := h
  refine ⟨a.keep (base' := 0) k hB n1 n2 (fun j hj e => ho j e hj), h1, hB, fun j hj e => ?_⟩
  rcases k.2 with h2 | ⟨q, h2, h3⟩
  · exact ho j (h2 ▸ hj) e
  · obtain ⟨inner, hw⟩ := Kd.R_own a.2.2
    have := own_lt hw j e
    rw [h2] at hj
    injection hj with hj
    omega
theorem Duo.below {w w' : World} {b1 B1 b2 B2 : Nat} {v1 v2 : Value} {L1 L2 : List Bool} (h : Duo w b1 B1 v1 L1 b2 B2 v2 L2) (hb : Below w.heap.size w w') : Duo w' b1 B1 v1 L1 b2 B2 v2 L2 := ⟨h.1.below hb, h.2.1.below hb, h.2.2⟩
theorem rv_arg {w0 w : World} {A : Option Addr} {m : Nat} {xs : List Int} {base B : Nat} {v : Value} {l : List Bool} (h : Kd.C (Kd.int .u8) w0 A m xs) (hb : Below w0.heap.size w0 w) (hF : Wv w base B v l) (hle : w0.heap.size ≤ base) :
    ∀ v' W', Mv B v w v' W' → Kd.C (Kd.int .u8) W' A m xs := by
  intro v' W' hk
  refine Kd.C_kept_came (Kd.heap_int .u8) h hb (S := fun k => k = B ∨ some k = v.ownBlock) ?_ W' hk.1
  rintro k (rfl | hk)
  · exact Nat.le_trans hle hF.1
  · obtain ⟨inner, ho⟩ := Kd.R_own hF.2.2
    exact Nat.le_trans hle (own_base ho k hk.symm)
theorem cell_low {w w' : World} {a : Addr} {v : Value} (h : w.cell? a = some v) (hb : Below w.heap.size w w') : w'.cell? a = some v :=
  (World.cell?_of_block (w := w) (hb.block _ (World.block_lt_of_cell? w _ h))).trans h
theorem rows_at {w : World} {e : Nat} {A : Option Addr} {n : Nat} {ll : List (List Int)} (h : Kd.C (Kd.slice e (Kd.int .u8)) w A n ll) (k : Nat) (hk : k < n) :
    ∃ ad Ab cb, A = some ad ∧ w.cell? (ad.add k) = some (.slice Ab (ll.getD k []).length cb) ∧ Kd.C (Kd.int .u8) w Ab (ll.getD k []).length (ll.getD k []) := by
  obtain ⟨h1, _, h2⟩ := h
  obtain ⟨ad, rfl, h3⟩ := h2 (by omega)
  have hl : k < ll.length := by omega
  obtain ⟨c, _, ⟨Ab, cb, hc, _, hC⟩, h5⟩ := h3 k (ll[k]) (List.getElem?_eq_getElem hl)
  have e0 : ll.getD k [] = ll[k] := by rw [List.getD_eq_getElem?_getD, List.getElem?_eq_getElem hl]; rfl
  rw [e0]
  subst hc
  have := h5 0 _ rfl
  refine ⟨ad, Ab, cb, rfl, ?_, hC⟩
  have hz : k * (Kd.slice e (Kd.int .u8)).sz + 0 = k := by show k * 1 + 0 = k; omega
  rwa [hz] at this
end Go.Proofs.Ytaoiamifofkklaa.Obj
