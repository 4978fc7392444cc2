/- Proved: carillonlaw01.WordTurns returns true: any word turned by any number is what the document's loop makes of it, and turned back it is itself. Conditions: none. -/
import Derived.Test.YtedgfhnjmlefnaaPWordx1
namespace Go.Proofs.Ytedgfhnjmlefnaa.Pure
open Go.RowKit Go.Proofs.Ytedgfhnjmlefnaa.PWord Go.Proofs.YtedgfhnjmlefnaaW.PrintWords Go.Proofs.YtedgfhnjmlefnaaW.PrintLast Go.Proofs.YtedgfhnjmlefnaaW.PrintMore
set_option linter.unusedVariables false
set_option linter.unusedSimpArgs false
theorem turn_is (x : BitVec 32) (n : Int) (h0 : -9223372036854775808 ≤ n) (h1 : n ≤ 9223372036854775807) : word_Turn.f (x.toNat : Int) n = some ((rotr x (n % 32).toNat).toNat : Int) := by
  have e1 : Int.tmod (IntKind.u64.wrap (wrap64 ((Int.tmod n 32) + 32))) 32 = n % 32 := by
    rw [x_tmod n 32 (by omega)]
    have e2 : wrap64 ((if 0 ≤ n then n % 32 else -((-n) % 32)) + 32) = (if 0 ≤ n then n % 32 else -((-n) % 32)) + 32 := by
      apply x_w64 <;> split <;> omega
    rw [e2, x_wrap_u64', x_tmod _ 32 (by omega)]
    split <;> split <;> omega
  unfold word_Turn.f
  rw [e1]
  have e3 : IntKind.u64.wrap (32 - n % 32) = 32 - n % 32 := by rw [x_wrap_u64']; omega
  rw [e3, if_pos (by omega), if_pos (by omega)]
  obtain ⟨k, hk⟩ : ∃ k : Nat, n % 32 = (k : Int) := ⟨(n % 32).toNat, by omega⟩
  have hk32 : k ≤ 32 := by omega
  rw [hk, show (32 : Int) - (k : Int) = ((32 - k : Nat) : Int) by omega, x_shr32 _ _ hk32, x_shl32 _ _ (by omega), x_or32]
  rfl
theorem ref_loop (n : Nat) (hn : n ≤ 31) : ∀ (d k i : Nat) (x : BitVec 32), i + d = n → d < k → carillonref01_Turn.l0 k (x.toNat : Int) (n : Int) (i : Int) = some ((rotr x d).toNat : Int) := by
  intro d
  induction d with
  | zero =>
    intro k i x hi hk
    obtain ⟨k, rfl⟩ : ∃ m, k = m + 1 := ⟨k - 1, by omega⟩
    simp only [carillonref01_Turn.l0]
    rw [if_neg (by omega), rotr_zero]
  | succ d ih =>
    intro k i x hi hk
    obtain ⟨k, rfl⟩ : ∃ m, k = m + 1 := ⟨k - 1, by omega⟩
    simp only [carillonref01_Turn.l0]
    rw [if_pos (by omega)]
    have e1 : (x.toNat : Int) / (2 : Int) = ((x >>> 1).toNat : Int) := by rw [BitVec.toNat_ushiftRight, Nat.shiftRight_eq_div_pow]; simp
    have e2 : ((x.toNat : Int) * (2147483648 : Int)) % (4294967296 : Int) = ((x <<< 31).toNat : Int) := by rw [BitVec.toNat_shiftLeft, Nat.shiftLeft_eq]; simp
    have e3 : wrap64 ((i : Int) + 1) = ((i + 1 : Nat) : Int) := by unfold wrap64; omega
    rw [e1, e2, x_or32, e3]
    have := ih k (i + 1) (rotr x 1) (by omega) (by omega)
    rw [rotr_rotr _ _ _ (by omega), Nat.add_comm 1 d] at this
    exact this
theorem ref_is (x : BitVec 32) (n : Int) (h0 : -9223372036854775808 ≤ n) (h1 : n ≤ 9223372036854775807) : carillonref01_Turn.f 40 (x.toNat : Int) n = some ((rotr x (n % 32).toNat).toNat : Int) := by
  obtain ⟨k, hk⟩ : ∃ k : Nat, n % 32 = (k : Int) := ⟨(n % 32).toNat, by omega⟩
  have hk32 : k ≤ 31 := by omega
  have main : carillonref01_Turn.j0 40 (x.toNat : Int) (k : Int) = some ((rotr x k).toNat : Int) := by
    show carillonref01_Turn.l0 39 (x.toNat : Int) (k : Int) 0 = _
    exact ref_loop k hk32 k 39 0 x (by omega) (by omega)
  have ht := x_tmod n 32 (by omega)
  unfold carillonref01_Turn.f
  rw [show (n % 32).toNat = k by omega]
  split
  · rename_i h
    have : wrap64 (Int.tmod n 32 + 32) = (k : Int) := by
      rw [ht] at h ⊢
      split at h
      · omega
      · rename_i h2
        rw [if_neg h2, x_w64 (by omega) (by omega)]
        omega
    rw [this]; exact main
  · rename_i h
    have : Int.tmod n 32 = (k : Int) := by
      rw [ht] at h ⊢
      split at h
      · rename_i h2; rw [if_pos h2]; exact hk
      · rename_i h2; rw [if_neg h2]; omega
    rw [this]; exact main
theorem awake_is : carillonlaw01_awake.f = some true := by
  have := turn_is 1 1 (by omega) (by omega)
  unfold carillonlaw01_awake.f
  rw [show ((1 : BitVec 32).toNat : Int) = 1 from rfl] at this
  rw [this]
  decide
theorem WordTurns : carillonlaw01_WordTurns.Pure := by
  intro a n ha hn
  obtain ⟨ha0, ha1⟩ := x_wf32 ha
  obtain ⟨hn0, hn1⟩ := x_wfi hn
  obtain ⟨x, rfl⟩ := x_as32 ha0 ha1
  refine ⟨40, ?_⟩
  unfold carillonlaw01_WordTurns.f
  have ht := x_tmod n 32 (by omega)
  obtain ⟨m, hm⟩ : ∃ m, m = wrap64 (-(Int.tmod n 32)) := ⟨_, rfl⟩
  have hm2 : m = -(Int.tmod n 32) := by
    rw [hm]; apply x_w64 <;> rw [ht] <;> split <;> omega
  rw [turn_is x n hn0 hn1, ref_is x n hn0 hn1, awake_is, ← hm]
  simp only [Option.bind_some]
  rw [if_pos trivial, turn_is _ m (by rw [hm2, ht]; split <;> omega) (by rw [hm2, ht]; split <;> omega)]
  simp only [Option.bind_some]
  obtain ⟨k, hk⟩ : ∃ k : Nat, n % 32 = (k : Int) := ⟨(n % 32).toNat, by omega⟩
  have e : rotr (rotr x (n % 32).toNat) (m % 32).toNat = x := by
    have hs : m % 32 = (-n) % 32 := by rw [hm2, ht]; split <;> omega
    by_cases h0 : n % 32 = 0
    · rw [show (m % 32).toNat = 0 by omega, show (n % 32).toNat = 0 by omega, rotr_zero, rotr_zero]
    · rw [rotr_rotr _ _ _ (by omega), show (n % 32).toNat + (m % 32).toNat = 32 by omega, rotr_32]
  rw [e]
  simp
end Go.Proofs.Ytedgfhnjmlefnaa.Pure
