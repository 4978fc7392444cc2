/- Proved: carillonlaw26.ViewOne returns true: with a node it is there, without it is not, all others stay; a view is within each that has one more. Conditions: none. -/
import Derived.Test.YtaoiamifofkklaaPViewx2
import Derived.Test.YtaoiamifofkklaaX1Pure
namespace Go.Proofs.Ytaoiamifofkklaa.Pure
open Go.RowKit Go.Proofs.Ytaoiamifofkklaa.PView Go.Proofs.YtaoiamifofkklaaW.PrintWords Go.Proofs.YtaoiamifofkklaaW.PrintLast Go.Proofs.YtaoiamifofkklaaW.PrintMore
set_option linter.unusedVariables false
set_option linter.unusedSimpArgs false
theorem has_far (x k : Int) (h : ¬ (0 ≤ k ∧ k < 8)) : view_Has.f x k = view_Has.f x 8 := by
  have h1 : view_isNode.f k = some false := by
    unfold view_isNode.f
    by_cases h0 : k ≥ 0
    · rw [if_pos h0]; congr 1; exact decide_eq_false (by omega)
    · rw [if_neg h0]
  have h2 : view_isNode.f 8 = some false := by decide
  unfold view_Has.f
  rw [h1, h2]
  simp only [Option.bind_some]
  simp only [if_neg (show ¬ (false = true) by decide)]
theorem one_far (K : Nat) (v i k : Int) (h : ¬ (0 ≤ k ∧ k < 8)) (hi : 0 ≤ i ∧ i < 8) : carillonlaw26_ViewOne.f (K + 1) v i k = carillonlaw26_ViewOne.f (K + 1) v i 8 := by
  have e1 : ¬ k = i := by omega
  have e2 : ¬ (8 : Int) = i := by omega
  unfold carillonlaw26_ViewOne.f
  simp only [carillonlaw26_ViewOne.j0, has_far _ k h, if_neg e1, if_neg e2]
set_option maxRecDepth 1000000 in
theorem one_all : ∀ v : Fin 256, ∀ i : Fin 8, ∀ k : Fin 9, carillonlaw26_ViewOne.f 4 (v.val : Int) (i.val : Int) (k.val : Int) = some true := by
  decide +kernel
theorem one_awake : (carillonlaw26_awake.f.bind fun t127 => some t127) = some true := by decide +kernel
theorem one_bad (v i k : Int) (h : view_With.f 4 v i = some (0, 1)) (h' : view_Without.f 4 v i = some (0, 1)) : carillonlaw26_ViewOne.f 4 v i k = some true := by
  unfold carillonlaw26_ViewOne.f
  rw [h, h']
  simp only [Option.bind_some]
  rw [if_neg (by decide)]
  rw [carillonlaw26_ViewOne.j0]
  rw [if_pos rfl, if_pos rfl, if_pos rfl, if_pos rfl]
  exact one_awake
theorem ViewOne : carillonlaw26_ViewOne.Pure := by
  intro v i k hv hi hk
  refine ⟨4, ?_⟩
  by_cases h1 : 0 ≤ v ∧ v ≤ 255
  · have e1 : view_isView.f v = some true := by
      unfold view_isView.f; rw [if_pos h1.1]; congr 1; exact decide_eq_true h1.2
    by_cases h2 : 0 ≤ i ∧ i < 8
    · have ha := one_all ⟨v.toNat, by omega⟩ ⟨i.toNat, by omega⟩
      by_cases h3 : 0 ≤ k ∧ k < 8
      · have h := ha ⟨k.toNat, by omega⟩
        simp only [Int.toNat_of_nonneg h1.1, Int.toNat_of_nonneg h2.1, Int.toNat_of_nonneg h3.1] at h
        exact h
      · rw [one_far 3 v i k h3 h2]
        have h := ha ⟨8, by omega⟩
        simp only [Int.toNat_of_nonneg h1.1, Int.toNat_of_nonneg h2.1] at h
        exact h
    · have e2 : view_isNode.f i = some false := by
        unfold view_isNode.f
        by_cases h0 : i ≥ 0
        · rw [if_pos h0]; congr 1; exact decide_eq_false (by omega)
        · rw [if_neg h0]
      have e3 : view_Of.f 4 [i] = some (0, 1) := by
        unfold view_Of.f
        have e4 : rd [i] 0 = i := rfl
        simp [view_Of.l0, e4, e2]
      exact one_bad v i k (by unfold view_With.f; rw [e1, e3]; rfl) (by unfold view_Without.f; rw [e1, e3]; rfl)
  · have e1 : view_isView.f v = some false := by
      unfold view_isView.f
      by_cases h0 : v ≥ 0
      · rw [if_pos h0]; congr 1; exact decide_eq_false (by omega)
      · rw [if_neg h0]
    exact one_bad v i k (by unfold view_With.f; rw [e1]; rfl) (by unfold view_Without.f; rw [e1]; rfl)
end Go.Proofs.Ytaoiamifofkklaa.Pure
