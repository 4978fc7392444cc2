/- Contracts of Go functions that the claims of this seat share. -/
import Derived.Test.YtbkchjiiaehhpaaProg
import Derived.Below
import Derived.Deep.Draws
import Derived.Deep.AppendLies
import Derived.Maps.AppendAt
import Derived.OwnWalk
import Derived.Laws.BytesArg
import Derived.Laws.MakeOwn
import Derived.Laws.OwnMore
import Derived.Deep.OwnRows
import Derived.Tactics
import Derived.Lib.ConvBytes
import Derived.Laws.Slices
import Derived.WalkKit
import Derived.KernelRfl
import Derived.RowKit3
import Derived.Deep.LoopGhost
import Derived.Deep.QuietTactic
import Derived.BigQuiet
import Derived.WideLaws
import Derived.Deep.DeepCutAuto
import Derived.Deep.CutBlock
import Derived.Deep.RegionHeld3
import Derived.Laws.Rows
import Derived.Lib.AppendStr
import Derived.ArgAppend
import Derived.Laws.IdiomCopy
import Derived.OrdersHeld
import Derived.Laws.BitsLemmas
import Derived.RowKit
import Derived.Test.YtbkchjiiaehhpaaWWords
import Derived.Test.YtbkchjiiaehhpaaWLast
import Derived.Test.YtbkchjiiaehhpaaWTab
import Derived.Test.YtbkchjiiaehhpaaWFour
import Derived.Test.YtbkchjiiaehhpaaWQPut
import Derived.Test.YtbkchjiiaehhpaaWApart
import Derived.Test.YtbkchjiiaehhpaaWArr
import Derived.Test.YtbkchjiiaehhpaaWZeros
import Derived.Test.YtbkchjiiaehhpaaWFoot
import Derived.Test.YtbkchjiiaehhpaaWKept
import Derived.Test.YtbkchjiiaehhpaaWShare
import Derived.Test.YtbkchjiiaehhpaaWN
import Derived.Test.YtbkchjiiaehhpaaWFootNe
import Derived.Test.YtbkchjiiaehhpaaWAt
import Derived.Test.YtbkchjiiaehhpaaWEqStruct
import Derived.Test.YtbkchjiiaehhpaaWRepsOne
import Derived.Test.YtbkchjiiaehhpaaWInv
import Derived.Test.YtbkchjiiaehhpaaWInvWords
import Derived.Test.YtbkchjiiaehhpaaWGuard
import Derived.Test.YtbkchjiiaehhpaaWNEv
import Derived.Test.YtbkchjiiaehhpaaWMore
import Derived.Test.YtbkchjiiaehhpaaX0Mem
import Derived.Test.YtbkchjiiaehhpaaX1Pure
import Derived.Test.YtbkchjiiaehhpaaXShaP
namespace Go.Proofs.Ytbkchjiiaehhpaa.Obj
open Go.RowKit Go.Proofs.YtbkchjiiaehhpaaW.PrintWords Go.Proofs.YtbkchjiiaehhpaaW.PrintLast Go.Proofs.YtbkchjiiaehhpaaW.PrintMore
set_option linter.unusedVariables false
set_option linter.unusedSimpArgs false
open Go.Proofs.Ytbkchjiiaehhpaa.PShaH
theorem dga_below {w w' : World} {base D : Nat} {v : Value} {l : List Int} (h : DgA w base D v l) (hb : Below w.heap.size w w') : DgA w' base D v l := Dg.below h hb
def AP (v u : Value) : Prop := ∀ k, u.ownBlock = some k → v.ownBlock ≠ some k
theorem Rc.grown {w w' : World} {base : Nat} {v : Value} {xs : List Int} {row : Option Nat} (h : Rc w base v xs) (hg : w.grownBy w' row) (hn : ∀ k, v.ownBlock = some k → row ≠ some k) : Rc w' base v xs := by
  obtain ⟨A, c, c', rfl, hl, h⟩ := h
  refine ⟨A, c, c', rfl, hl, Kd.R_mono (Kd.R_grown (Kd.R_tight rfl h) hg (fun k hk e => ?_)) (fun _ _ => trivial)⟩
  have hk' : some k = (Value.slice A xs.length c').ownBlock := hk
  exact hn k (by cases A <;> exact hk'.symm) e.symm
theorem dga_grown {w w' : World} {base base' D : Nat} {v u : Value} {l ys : List Int} (h : DgA w base D v l) (hu : Kd.R (Kd.int .u8) 5 w base' (fun _ => True) u ys) (hg : w.grownBy w' u.ownBlock) (ha : AP v u) : DgA w' base D v l :=
  ⟨h.1, blk_grown h.2.1 hg (Kd.R_ne hu h.2.1 (by decide)), h.2.2.grown hg (fun k hk e => ha k e hk)⟩
theorem dga_row {w w' : World} {base base' D : Nat} {v u : Value} {l ys : List Int} (h : DgA w base D v l) (hu : Kd.R (Kd.int .u8) 5 w base' (fun _ => True) u ys) (hk : KeepBut w w' D none) : Kd.R (Kd.int .u8) 5 w' base' (fun _ => True) u ys :=
  Kd.R_mono (Kd.R_keep (Kd.R_types hu h.2.1 (by decide)) hk (fun _ hk => hk.2)) (fun _ _ => trivial)
theorem ap_write {w : World} {base' : Nat} {v v2 u : Value} {ys : List Int} (h : AP v u) (hu : Kd.R (Kd.int .u8) 5 w base' (fun _ => True) u ys) (hn : ∀ j, v2.ownBlock = some j → w.heap.size ≤ j ∨ v.ownBlock = some j) : AP v2 u := by
  intro k hk e
  rcases hn k e with hj | hj
  · have := Kd.R_lt hu k hk
    omega
  · exact h k hk hj
theorem ap_append {w : World} {base D : Nat} {v u u2 : Value} {l : List Int} (h : AP v u) (hd : DgA w base D v l) (hn : u2.ownBlock = u.ownBlock ∨ ∃ b, u2.ownBlock = some b ∧ w.heap.size ≤ b) : AP v u2 := by
  intro k hk e
  rcases hn with hn | ⟨b, hb, hle⟩
  · exact h k (by rw [← hn]; exact hk) e
  · rw [hb] at hk
    injection hk with hk
    subst hk
    obtain ⟨A, c, c', rfl, _, hR⟩ := hd.2.2
    have hlt := Kd.R_lt hR b (by cases A <;> exact e)
    omega
theorem sh_lenA (D base : Nat) (v : Value) (l : List Int) (w : World) (h : DgA w base D v l) :
    Calls Try.prog 29 #[.pointer (some ⟨D, 0, none⟩)] w fun e w' => e = .returned (.int .i64 (l.length : Int)) ∧ w' = w := sh_len D base v _ _ _ w h
theorem sh_copyA (D base : Nat) (v : Value) (l : List Int) (w : World) (h : DgA w base D v l) :
    Calls Try.prog 28 #[.pointer (some ⟨D, 0, none⟩)] w fun e w' => ∃ D' v', e = .returned (.pointer (some ⟨D', 0, none⟩)) ∧ DgA w' w.heap.size D' v' l ∧ Below w.heap.size w w' :=
  sh_copy D base v _ _ _ w h (by have := tailL_len l; omega)
/-- the literal 1, 2, 3, written to a digest of before -/
theorem lit_foot {w : World} {D base : Nat} {v : Value} {l : List Int} (h : DgA w base D v l) : ∀ W', KeepBut (w.alloc (.cells #[.int .u8 1, .int .u8 2, .int .u8 3] 5)) W' D none → Kd.C (Kd.int .u8) W' (some ⟨w.heap.size, 0, none⟩) 3 [1, 2, 3] := by
  have h1 := own_lit w w.heap.size 5 .u8 [1, 2, 3] (Nat.le_refl _) (by simp)
  have h2 := Kd.R_of_own (enc := Value.int .u8) (h1 := fun _ => rfl) (ok := fun _ => True) h1 (fun _ _ => trivial)
  have hD := blk_lt h.2.1
  exact Kd.C_foot_own (ok := fun k => w.heap.size ≤ k) (Kd.R_mono (Kd.R_bound h2) (fun _ hk => hk.2.1)) (fun k hk e => by
    have hk' : w.heap.size ≤ k := hk
    omega)
theorem sh_rows {w : World} {e : Nat} {A : Option Addr} {n : Nat} {ll : List (List Int)} (h : Kd.C (Kd.slice e (Kd.int .u8)) w A n ll) (k : Nat) (hk : k < n) :
    ∃ ad Ab cb, A = some ad ∧ w.cell? (ad.add k) = some (.slice Ab (ll.getD k []).length cb) ∧ (ll.getD k []).length ≤ cb ∧ Kd.C (Kd.int .u8) w Ab (ll.getD k []).length (ll.getD k []) := by
  obtain ⟨h1, _, h2⟩ := h
  obtain ⟨ad, rfl, h3⟩ := h2 (by omega)
  have hl : k < ll.length := by omega
  obtain ⟨c, _, ⟨Ab, cb, hc, hcb, hC⟩, h5⟩ := h3 k (ll[k]) (List.getElem?_eq_getElem hl)
  have e0 : ll.getD k [] = ll[k] := by rw [List.getD_eq_getElem?_getD, List.getElem?_eq_getElem hl]; rfl
  rw [e0]
  subst hc
  have := h5 0 _ rfl
  refine ⟨ad, Ab, cb, rfl, ?_, hcb, hC⟩
  have hz : k * (Kd.slice e (Kd.int .u8)).sz + 0 = k := by show k * 1 + 0 = k; omega
  rwa [hz] at this
end Go.Proofs.Ytbkchjiiaehhpaa.Obj
