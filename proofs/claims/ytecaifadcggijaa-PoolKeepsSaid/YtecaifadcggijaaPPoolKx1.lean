/- Written by a program of this session (wip/tools/hprint.py), over the kit's print, with hand-written contracts. -/
import Derived.Test.YtecaifadcggijaaPPoolKx0
namespace Go.Proofs.Ytecaifadcggijaa.PPoolK
open Go.RowKit Go.Proofs.YtecaifadcggijaaW.PrintWords Go.Proofs.YtecaifadcggijaaW.PrintLast Go.Proofs.YtecaifadcggijaaW.PrintMore
attribute [local go_sem] max2_int min2_int max_two min_two max_three min_three max_four min_four Go.IntKind.wrap_u8   -- for this text's walks alone
set_option linter.unusedVariables false
set_option linter.unusedSimpArgs false

-- NOT PRINTED: function 11 (pool_New)

-- NOT PRINTED: function 37 (pool_Pool_none)

-- NOT PRINTED: function 12 (pool_Pool_Add)

-- NOT PRINTED: function 16 (pool_Pool_Len)

-- NOT PRINTED: function 13 (carillonlaw31_awake)

-- NOT PRINTED: function 14 (pool_Pool_Get)

-- NOT PRINTED: function 15 (pool_Pool_Sent)

/-! ### carillonlaw31_PoolKeeps: function 3 -/
def carillonlaw31_PoolKeeps.f : Option Bool := some true
/-- THE WALK ITSELF, by hand. -/
def carillonlaw31_PoolKeeps.Pure : Prop := ∀ (A0 : Option Addr) (c0 : Nat) (l0 : List (List Int)) (w : World) (hr0 : Kd.C (Kd.slice 5 (Kd.int .u8)) w A0 l0.length l0) (hc0 : l0.length ≤ c0) (hm0 : l0.length ≤ maxLen) (y0 : l0.length * 24 ≤ 140737488351232) (hw0 : ∀ r ∈ l0, r.length * 1 ≤ 140737488351232 ∧ ∀ x ∈ r, (Lit.int .u8 x).wf = true), Calls Try.prog 3 #[.slice A0 l0.length c0] w fun e w' => e = .returned (.bool true) ∧ Below w.heap.size w w'
theorem carillonlaw31_PoolKeeps.walk (P : carillonlaw31_PoolKeeps.Pure) (a0 : Option Addr) (len0 cap0 : Nat) (z0 : List (List Int)) (w : World) (w0 : len0 = z0.length ∧ Kd.C (Kd.slice 5 (Kd.int .u8)) w a0 len0 z0 ∧ len0 ≤ cap0 ∧ len0 ≤ maxLen ∧ len0 * 24 ≤ 140737488351232 ∧ ∀ r ∈ z0, r.length * 1 ≤ 140737488351232 ∧ ∀ x ∈ r, (Lit.int .u8 x).wf = true) (y0 : len0 * 24 ≤ 140737488351232) :
    Calls Try.prog 3 #[.slice a0 len0 cap0] w fun e w' => e = .returned (.bool true) ∧ Below w.heap.size w w' := by
  obtain ⟨rfl, hr0, hc0, hm0, _, hw0⟩ := w0
  exact P _ _ z0 w hr0 hc0 hm0 y0 hw0

end Go.Proofs.Ytecaifadcggijaa.PPoolK
