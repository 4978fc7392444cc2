/- Contracts of Go functions that the claims of this seat share. -/
import Derived.Test.YtaoiamifofkklaaProg
import Derived.Below
import Derived.Deep.Draws
import Derived.Deep.AppendLies
import Derived.Maps.AppendAt
import Derived.OwnWalk
import Derived.Laws.BytesArg
import Derived.Laws.MakeOwn
import Derived.Laws.OwnMore
import Derived.Deep.OwnRows
import Derived.Tactics
import Derived.Lib.ConvBytes
import Derived.Laws.Slices
import Derived.WalkKit
import Derived.KernelRfl
import Derived.RowKit3
import Derived.Deep.LoopGhost
import Derived.Deep.QuietTactic
import Derived.BigQuiet
import Derived.WideLaws
import Derived.Deep.DeepCutAuto
import Derived.Deep.CutBlock
import Derived.Deep.RegionHeld3
import Derived.Laws.Rows
import Derived.Lib.AppendStr
import Derived.ArgAppend
import Derived.Laws.IdiomCopy
import Derived.OrdersHeld
import Derived.Laws.BitsLemmas
import Derived.RowKit
import Derived.Test.YtaoiamifofkklaaWWords
import Derived.Test.YtaoiamifofkklaaWLast
import Derived.Test.YtaoiamifofkklaaWTab
import Derived.Test.YtaoiamifofkklaaWFour
import Derived.Test.YtaoiamifofkklaaWQPut
import Derived.Test.YtaoiamifofkklaaWApart
import Derived.Test.YtaoiamifofkklaaWArr
import Derived.Test.YtaoiamifofkklaaWZeros
import Derived.Test.YtaoiamifofkklaaWFoot
import Derived.Test.YtaoiamifofkklaaWKept
import Derived.Test.YtaoiamifofkklaaWShare
import Derived.Test.YtaoiamifofkklaaWN
import Derived.Test.YtaoiamifofkklaaWFootNe
import Derived.Test.YtaoiamifofkklaaWAt
import Derived.Test.YtaoiamifofkklaaWEqStruct
import Derived.Test.YtaoiamifofkklaaWRepsOne
import Derived.Test.YtaoiamifofkklaaWInv
import Derived.Test.YtaoiamifofkklaaWInvWords
import Derived.Test.YtaoiamifofkklaaWGuard
import Derived.Test.YtaoiamifofkklaaWNEv
import Derived.Test.YtaoiamifofkklaaWMore
import Derived.Test.YtaoiamifofkklaaX0Mem
import Derived.Test.YtaoiamifofkklaaX1Pure
import Derived.Test.YtaoiamifofkklaaXBitsA
namespace Go.Proofs.Ytaoiamifofkklaa.Obj
open Go.RowKit Go.Proofs.YtaoiamifofkklaaW.PrintWords Go.Proofs.YtaoiamifofkklaaW.PrintLast Go.Proofs.YtaoiamifofkklaaW.PrintMore
set_option linter.unusedVariables false
set_option linter.unusedSimpArgs false
def bitI (b : Bool) : Int := if b then 1 else 0
def packP (l : List Bool) : List Int × Nat := l.foldl (fun p b => (pushB p.1 p.2 (bitI b), p.2 + 1)) ([], 0)
def pack (l : List Bool) : List Int := (packP l).1
theorem packP_snoc (l : List Bool) (b : Bool) : packP (l ++ [b]) = (pushB (packP l).1 (packP l).2 (bitI b), (packP l).2 + 1) := by unfold packP; rw [List.foldl_append]; rfl
theorem snoc_ind {α : Type} {P : List α → Prop} (h0 : P []) (hs : ∀ l b, P l → P (l ++ [b])) : ∀ l, P l := fun l => by
  have h : ∀ r : List α, P r.reverse := fun r => by
    induction r with
    | nil => exact h0
    | cons a r ih => rw [List.reverse_cons]; exact hs _ _ ih
  simpa using h l.reverse
theorem packP_two (l : List Bool) : (packP l).2 = l.length := by
  induction l using snoc_ind with
  | h0 => rfl
  | hs l b ih => rw [packP_snoc, ih, List.length_append]; rfl
theorem pack_snoc (l : List Bool) (b : Bool) : pack (l ++ [b]) = pushB (pack l) l.length (bitI b) := by unfold pack; rw [packP_snoc, packP_two]
theorem pack_len (l : List Bool) : (pack l).length = (l.length + 7) / 8 := by
  induction l using snoc_ind with
  | h0 => rfl
  | hs l b ih =>
    rw [pack_snoc, List.length_append]
    unfold pushB push1
    rw [List.length_set]
    split
    · rw [List.length_append, ih]; simp; omega
    · rw [ih]; simp; omega
theorem bitI_b (b : Bool) : 0 ≤ bitI b ∧ bitI b < 256 := by cases b <;> decide
def WrL (w : World) (base B : Nat) (v : Value) (l : List Bool) : Prop := Wr w base B v (pack l) l.length
def Mv (B : Nat) (v : Value) (w : World) (v' : Value) (w' : World) : Prop := Kept w w' (fun k => k = B ∨ some k = v.ownBlock) ∧ (v'.ownBlock = v.ownBlock ∨ ∃ b, v'.ownBlock = some b ∧ w.heap.size ≤ b)
theorem Mv.refl (B : Nat) (v : Value) (w : World) : Mv B v w v w := ⟨Kept.refl _ _, .inl rfl⟩
theorem Mv.drew {B : Nat} {v v' : Value} {w w' : World} (h : Mv B v w v' w') : Mv B v w v' w'.drew := ⟨h.1.drew, h.2⟩
theorem Mv.drewN {B : Nat} {v v' : Value} {w w' : World} (n : Nat) (h : Mv B v w v' w') : Mv B v w v' (w'.drewN n) := ⟨h.1.drewN n, h.2⟩
theorem Mv.trans {B : Nat} {v v1 v2 : Value} {w w1 w2 : World} (h : Mv B v w v1 w1) (k : Mv B v1 w1 v2 w2) : Mv B v w v2 w2 := by
  have hs := h.1.1
  refine ⟨h.1.then_ k.1 (fun j hj => ?_), ?_⟩
  · rcases hj with rfl | hj
    · exact .inl (.inl rfl)
    · rcases h.2 with h2 | ⟨b, h2, h3⟩
      · exact .inl (.inr (by rw [← h2]; exact hj))
      · right
        rw [h2] at hj
        injection hj with hj
        omega
  · rcases k.2 with k2 | ⟨b, k2, k3⟩
    · rcases h.2 with h2 | ⟨b, h2, h3⟩
      · exact .inl (k2.trans h2)
      · exact .inr ⟨b, k2.trans h2, h3⟩
    · exact .inr ⟨b, k2, by omega⟩
theorem WrL.drew {w : World} {base B : Nat} {v : Value} {l : List Bool} (h : WrL w base B v l) : WrL w.drew base B v l := Wr.drew h
theorem WrL.keep {w w' : World} {base base' B B' : Nat} {v v1 v' : Value} {l : List Bool} (h : WrL w base B v l) (k : Mv B' v1 w v' w') (hB : B ≠ B') (hBo : some B ≠ v1.ownBlock) (hoB : some B' ≠ v.ownBlock) (hoo : ∀ k, v.ownBlock = some k → v1.ownBlock ≠ some k) : WrL w' base B v l := by
  refine ⟨h.1, blk_kept h.2.1 k.1 (fun e => ?_), Kd.R_mono (Kd.R_kept (Kd.R_tight rfl h.2.2) k.1 (fun j hj e => ?_)) (fun _ _ => trivial)⟩
  · rcases e with rfl | e
    · exact hB rfl
    · exact hBo e
  · rcases e with rfl | e
    · exact hoB hj
    · exact hoo j hj.symm e.symm
theorem bt_push (B base : Nat) (v : Value) (l : List Bool) (b : Bool) (x : Int) (w : World) (h : WrL w base B v l) (hx : x = bitI b) (hn : l.length ≤ 100000) :
    Calls Try.prog 69 #[.pointer (some ⟨B, 0, none⟩), .int .u64 x] w fun e w' => ∃ v', (∃ v, e = .returned v) ∧ WrL w' base B v' (l ++ [b]) ∧ Mv B v w v' w' ∧ Below base w w' := by
  subst hx
  by_cases h8 : l.length % 8 = 0
  · refine (bt_push0 B base l.length v (pack l) (bitI b) w h h8 (bitI_b b) (pack_len l) hn).mono ?_
    rintro e w' ⟨v', h1, h2, h3, h4, h5⟩
    refine ⟨v', h1, ?_, ⟨h3, h4⟩, h5⟩
    unfold WrL
    rw [pack_snoc, List.length_append]
    unfold pushB
    rw [if_pos h8]
    exact h2
  · have hlen := pack_len l
    obtain ⟨g, cap, rfl, _⟩ := Kd.R_form h.2.2 (by omega)
    refine (bt_push1 B base g _ cap l.length (pack l) (bitI b) w h h8 (bitI_b b) (pack_len l) hn).mono ?_
    rintro e w' ⟨h1, h2, h3, h5⟩
    refine ⟨_, h1, ?_, ⟨h3.mono (fun k hk => ?_), .inl rfl⟩, h5⟩
    · unfold WrL
      rw [pack_snoc, List.length_append]
      unfold pushB
      rw [if_neg h8]
      exact h2
    · rcases hk with rfl | rfl
      · exact .inl rfl
      · exact .inr rfl
end Go.Proofs.Ytaoiamifofkklaa.Obj
