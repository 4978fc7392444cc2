/- Proved: carillonlaw01.WordXors returns true: any bytes xor any others are as the document says, and Same tells whether they are the same bytes. Conditions: none. -/
import Derived.Test.YtedgfhnjmlefnaaPWordx2
import Derived.Test.YtedgfhnjmlefnaaX1Pure
namespace Go.Proofs.Ytedgfhnjmlefnaa.Pure
open Go.RowKit Go.Proofs.Ytedgfhnjmlefnaa.PWord Go.Proofs.YtedgfhnjmlefnaaW.PrintWords Go.Proofs.YtedgfhnjmlefnaaW.PrintLast Go.Proofs.YtedgfhnjmlefnaaW.PrintMore
set_option linter.unusedVariables false
set_option linter.unusedSimpArgs false
theorem turn_is (x : BitVec 32) (n : Int) (h0 : -9223372036854775808 ≤ n) (h1 : n ≤ 9223372036854775807) : word_Turn.f (x.toNat : Int) n = some ((rotr x (n % 32).toNat).toNat : Int) := by
  have e1 : Int.tmod (IntKind.u64.wrap (wrap64 ((Int.tmod n 32) + 32))) 32 = n % 32 := by
    rw [x_tmod n 32 (by omega)]
    have e2 : wrap64 ((if 0 ≤ n then n % 32 else -((-n) % 32)) + 32) = (if 0 ≤ n then n % 32 else -((-n) % 32)) + 32 := by
      apply x_w64 <;> split <;> omega
    rw [e2, x_wrap_u64', x_tmod _ 32 (by omega)]
    split <;> split <;> omega
  unfold word_Turn.f
  rw [e1]
  have e3 : IntKind.u64.wrap (32 - n % 32) = 32 - n % 32 := by rw [x_wrap_u64']; omega
  rw [e3, if_pos (by omega), if_pos (by omega)]
  obtain ⟨k, hk⟩ : ∃ k : Nat, n % 32 = (k : Int) := ⟨(n % 32).toNat, by omega⟩
  have hk32 : k ≤ 32 := by omega
  rw [hk, show (32 : Int) - (k : Int) = ((32 - k : Nat) : Int) by omega, x_shr32 _ _ hk32, x_shl32 _ _ (by omega), x_or32]
  rfl
theorem awake_is : carillonlaw01_awake.f = some true := by
  have := turn_is 1 1 (by omega) (by omega)
  unfold carillonlaw01_awake.f
  rw [show ((1 : BitVec 32).toNat : Int) = 1 from rfl] at this
  rw [this]
  decide
/-! Xor and Same, as the code has them. -/
def xorL (a b : List Int) : List Int := List.zipWith (Go.bits .xor .u8) a b
theorem xorL_len {a b : List Int} (h : a.length = b.length) : (xorL a b).length = a.length := by simp [xorL, h]
theorem own_is (l : List Int) (n : Int) (h0 : 0 ≤ n) (h : (l.length : Int) + n ≤ 281474976710656) : word_own.f l n = some l := by
  unfold word_own.f; rw [if_pos ⟨h0, h⟩]
theorem xor_drop {a b : List Int} {i : Nat} (ha : i < a.length) (hb : i < b.length) : xorL (a.drop i) (b.drop i) = Go.bits .xor .u8 a[i] b[i] :: xorL (a.drop (i + 1)) (b.drop (i + 1)) := by
  unfold xorL; rw [List.drop_eq_getElem_cons ha, List.drop_eq_getElem_cons hb, List.zipWith_cons_cons]
theorem xor_loop (a b : List Int) (hl : a.length = b.length) (hn : a.length ≤ 9223372036854775806) : ∀ (d k i : Nat) (p : List Int), i + d = a.length → d < k → p.length = i →
    word_Xor.l0 k (p ++ a.drop i) b (b.length : Int) (i : Int) = some (p ++ xorL (a.drop i) (b.drop i), 0) := by
  intro d
  induction d with
  | zero =>
    intro k i p hi hk hp
    obtain ⟨k, rfl⟩ : ∃ m, k = m + 1 := ⟨k - 1, by omega⟩
    simp only [word_Xor.l0]
    rw [if_neg (by omega), List.drop_of_length_le (by omega), List.drop_of_length_le (by omega)]
    simp [xorL]
  | succ d ih =>
    intro k i p hi hk hp
    obtain ⟨k, rfl⟩ : ∃ m, k = m + 1 := ⟨k - 1, by omega⟩
    simp only [word_Xor.l0]
    rw [if_pos (by omega), if_pos (by omega), if_pos (by omega), if_pos (by simp; omega)]
    have e3 : wrap64 ((i : Int) + 1) = ((i + 1 : Nat) : Int) := by unfold wrap64; omega
    have e4 : rd (p ++ a.drop i) (i : Int) = a[i]'(by omega) := by
      rw [rd_get _ _ (by simp; omega), List.getElem_append_right (by omega)]
      simp [hp]
    have e5 : (p ++ a.drop i).set (Int.toNat (i : Int)) (Go.bits .xor .u8 (a[i]'(by omega)) (b[i]'(by omega))) = (p ++ [Go.bits .xor .u8 (a[i]'(by omega)) (b[i]'(by omega))]) ++ a.drop (i + 1) := by
      rw [List.drop_eq_getElem_cons (show i < a.length by omega), Int.toNat_natCast, List.set_append_right _ _ (by omega)]
      simp only [hp, Nat.sub_self, List.set_cons_zero, List.append_assoc, List.singleton_append]
    rw [e3, e4, rd_get b i (by omega), e5, ih k (i + 1) _ (by omega) (by omega) (by simp [hp]), @xor_drop a b i (by omega) (by omega)]
    simp
theorem xor_is (a b : List Int) (hn : a.length ≤ 140737488351232) : ∀ k, a.length < k → word_Xor.f k a b = some (if a.length = b.length then (xorL a b, 0) else ([], 1)) := by
  intro k hk
  unfold word_Xor.f
  by_cases h : a.length = b.length
  · rw [if_pos (by omega), if_pos h, own_is _ _ (by omega) (by omega)]
    have := xor_loop a b h (by omega) a.length k 0 [] (by omega) hk rfl
    simpa using this
  · rw [if_neg (by omega), if_neg h]
theorem rxor_loop (a b : List Int) (hl : a.length = b.length) (hn : a.length ≤ 140737488351232) : ∀ (d k i : Nat) (p : List Int), i + d = a.length → d < k → p.length = i →
    carillonref01_Xor.l0 k a b p (i : Int) = some (p ++ xorL (a.drop i) (b.drop i), 0) := by
  intro d
  induction d with
  | zero =>
    intro k i p hi hk hp
    obtain ⟨k, rfl⟩ : ∃ m, k = m + 1 := ⟨k - 1, by omega⟩
    simp only [carillonref01_Xor.l0]
    rw [if_neg (by omega), List.drop_of_length_le (by omega), List.drop_of_length_le (by omega)]
    simp [xorL]
  | succ d ih =>
    intro k i p hi hk hp
    obtain ⟨k, rfl⟩ : ∃ m, k = m + 1 := ⟨k - 1, by omega⟩
    simp only [carillonref01_Xor.l0]
    rw [if_pos (by omega), if_pos (by omega), if_pos (by omega), if_pos (by omega)]
    have e3 : wrap64 ((i : Int) + 1) = ((i + 1 : Nat) : Int) := by unfold wrap64; omega
    rw [e3, rd_get a i (by omega), rd_get b i (by omega), ih k (i + 1) _ (by omega) (by omega) (by simp [hp]), @xor_drop a b i (by omega) (by omega)]
    simp
theorem rxor_is (a b : List Int) (hn : a.length ≤ 140737488351232) : ∀ k, a.length < k → carillonref01_Xor.f k a b = some (if a.length = b.length then (xorL a b, 0) else ([], 1)) := by
  intro k hk
  unfold carillonref01_Xor.f
  by_cases h : a.length = b.length
  · rw [if_pos (by omega), if_pos h]
    have := rxor_loop a b h hn a.length k 0 [] (by omega) hk rfl
    simpa using this
  · rw [if_neg (by omega), if_neg h]
theorem xor_byte {x y : Int} (hx0 : 0 ≤ x) (hx1 : x < 256) (hy0 : 0 ≤ y) (hy1 : y < 256) : 0 ≤ Go.bits .xor .u8 x y ∧ Go.bits .xor .u8 x y < 256 ∧ (Go.bits .xor .u8 x y = 0 ↔ x = y) ∧ Go.bits .xor .u8 (Go.bits .xor .u8 x y) y = x := by
  obtain ⟨a, rfl⟩ := x_as8 hx0 hx1
  obtain ⟨b, rfl⟩ := x_as8 hy0 hy1
  rw [x_xor8, x_xor8]
  have := (a ^^^ b).isLt
  refine ⟨by omega, by omega, ?_, ?_⟩
  · constructor
    · intro h
      have h1 : a ^^^ b = 0#8 := BitVec.eq_of_toNat_eq (by show (a ^^^ b).toNat = 0; omega)
      have : a = b := by
        have h2 : (a ^^^ b) ^^^ b = 0#8 ^^^ b := by rw [h1]
        rw [BitVec.xor_assoc, BitVec.xor_self, BitVec.xor_zero, BitVec.zero_xor] at h2
        exact h2
      rw [this]
    · intro h
      have : a = b := BitVec.eq_of_toNat_eq (by omega)
      rw [this, BitVec.xor_self]; rfl
  · rw [BitVec.xor_assoc, BitVec.xor_self, BitVec.xor_zero]
theorem xorL_b {a b : List Int} (ha : IsB a) (hb : IsB b) : IsB (xorL a b) := by
  intro x hx
  obtain ⟨i, hi, rfl⟩ := List.getElem_of_mem hx
  have h1 : i < a.length ∧ i < b.length := by simp [xorL] at hi; omega
  have := ha.get h1.1
  have := hb.get h1.2
  have := xor_byte (ha.get h1.1).1 (ha.get h1.1).2 (hb.get h1.2).1 (hb.get h1.2).2
  simp [xorL]
  exact ⟨this.1, this.2.1⟩
theorem or_byte {x y : Int} (hx0 : 0 ≤ x) (hx1 : x < 256) (hy0 : 0 ≤ y) (hy1 : y < 256) : 0 ≤ Go.bits .or .u8 x y ∧ Go.bits .or .u8 x y < 256 ∧ (Go.bits .or .u8 x y = 0 ↔ x = 0 ∧ y = 0) := by
  obtain ⟨a, rfl⟩ := x_as8 hx0 hx1
  obtain ⟨b, rfl⟩ := x_as8 hy0 hy1
  rw [x_or8]
  have := (a ||| b).isLt
  refine ⟨by omega, by omega, ?_⟩
  rw [BitVec.toNat_or]
  constructor
  · intro h
    have h1 : a.toNat ≤ a.toNat ||| b.toNat := Nat.left_le_or
    have h2 : b.toNat ≤ a.toNat ||| b.toNat := Nat.right_le_or
    omega
  · rintro ⟨h1, h2⟩
    have h1 : a.toNat = 0 := by omega
    have h2 : b.toNat = 0 := by omega
    simp [h1, h2]
theorem same_loop (a b : List Int) (ha : IsB a) (hb : IsB b) (hl : a.length = b.length) (hn : a.length ≤ 140737488351232) : ∀ (d k i : Nat) (x : Int), i + d = a.length → d < k → 0 ≤ x → x < 256 →
    word_Same.l0 k a b x (a.length : Int) (i : Int) = some (decide (x = 0 ∧ a.drop i = b.drop i)) := by
  intro d
  induction d with
  | zero =>
    intro k i x hi hk hx0 hx1
    obtain ⟨k, rfl⟩ : ∃ m, k = m + 1 := ⟨k - 1, by omega⟩
    simp only [word_Same.l0]
    rw [if_neg (by omega), List.drop_of_length_le (by omega), List.drop_of_length_le (by omega)]
    simp
    rw [Bool.eq_iff_iff]; simp
  | succ d ih =>
    intro k i x hi hk hx0 hx1
    obtain ⟨k, rfl⟩ : ∃ m, k = m + 1 := ⟨k - 1, by omega⟩
    simp only [word_Same.l0]
    rw [if_pos (by omega), if_pos (by omega), if_pos (by omega), if_pos (by omega)]
    have e3 : wrap64 ((i : Int) + 1) = ((i + 1 : Nat) : Int) := by unfold wrap64; omega
    have ga := ha.get (show i < a.length by omega)
    have gb := hb.get (show i < b.length by omega)
    have hx := xor_byte ga.1 ga.2 gb.1 gb.2
    have ho := or_byte hx0 hx1 hx.1 hx.2.1
    rw [e3, rd_get a i (by omega), rd_get b i (by omega), ih k (i + 1) _ (by omega) (by omega) ho.1 ho.2.1, List.drop_eq_getElem_cons (show i < a.length by omega), List.drop_eq_getElem_cons (show i < b.length by omega)]
    congr 1
    rw [decide_eq_decide, ho.2.2, hx.2.2.1, List.cons.injEq, and_assoc]
theorem same_is (a b : List Int) (ha : IsB a) (hb : IsB b) (hn : a.length ≤ 140737488351232) : ∀ k, a.length < k → word_Same.f k a b = some (decide (a = b)) := by
  intro k hk
  unfold word_Same.f
  by_cases h : a.length = b.length
  · rw [if_pos (by omega)]
    have := same_loop a b ha hb h hn a.length k 0 0 (by omega) hk (by omega) (by omega)
    simpa using this
  · rw [if_neg (by omega)]
    simp
    intro e; exact h (by rw [e])
theorem WordXors : carillonlaw01_WordXors.Pure := by
  intro a b _ ha hba _ hb hbb
  have ba := IsB.wf hba
  have bb := IsB.wf hbb
  refine ⟨a.length + 1, ?_⟩
  unfold carillonlaw01_WordXors.f
  rw [xor_is a b (by omega) _ (by omega), rxor_is a b (by omega) _ (by omega), same_is a b ba bb (by omega) _ (by omega), awake_is]
  simp only [Option.bind_some]
  rw [if_pos trivial, if_pos trivial, str_beq ba bb]
  simp
end Go.Proofs.Ytedgfhnjmlefnaa.Pure
