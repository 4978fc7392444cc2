-- WORDS
import Derived.Test.YtbkchjiiaehhpaaWWords
import Derived.Test.YtbkchjiiaehhpaaWMore
import Derived.Laws.BitsLemmas
namespace Go.Proofs.YtbkchjiiaehhpaaW.PrintMore
open Go.RowKit Go.Proofs.YtbkchjiiaehhpaaW.PrintWords
set_option linter.unusedVariables false
set_option linter.unusedSimpArgs false
/-! Whole numbers as bit vectors. -/
theorem x_lt (n : Nat) (b : BitVec n) : b.toNat < 2 ^ n := b.isLt
theorem x_wrap_u8 (b : BitVec 8) : IntKind.u8.wrap (b.toNat : Int) = b.toNat := by rw [IntKind.wrap_u8]; have := b.isLt; omega
theorem x_wrap_u32 (b : BitVec 32) : IntKind.u32.wrap (b.toNat : Int) = b.toNat := by rw [IntKind.wrap_u32]; have := b.isLt; omega
theorem x_wrap_u64' (n : Int) : IntKind.u64.wrap n = n % 18446744073709551616 := by simp [IntKind.wrap, IntKind.bits, IntKind.signed]
theorem x_wrap_u64 (b : BitVec 64) : IntKind.u64.wrap (b.toNat : Int) = b.toNat := by rw [x_wrap_u64']; have := b.isLt; omega
theorem x_ofInt {n : Nat} (b : BitVec n) : BitVec.ofInt n (b.toNat : Int) = b := by simp [BitVec.ofInt_natCast]
section
variable (x y : BitVec 8)
theorem x_or8 : Go.bits .or .u8 (x.toNat : Int) (y.toNat : Int) = ((x ||| y).toNat : Int) := by unfold Go.bits; simp only [IntKind.bits, x_ofInt]; exact x_wrap_u8 _
theorem x_and8 : Go.bits .and .u8 (x.toNat : Int) (y.toNat : Int) = ((x &&& y).toNat : Int) := by unfold Go.bits; simp only [IntKind.bits, x_ofInt]; exact x_wrap_u8 _
theorem x_xor8 : Go.bits .xor .u8 (x.toNat : Int) (y.toNat : Int) = ((x ^^^ y).toNat : Int) := by unfold Go.bits; simp only [IntKind.bits, x_ofInt]; exact x_wrap_u8 _
end
section
variable (x y : BitVec 32)
theorem x_or32 : Go.bits .or .u32 (x.toNat : Int) (y.toNat : Int) = ((x ||| y).toNat : Int) := by unfold Go.bits; simp only [IntKind.bits, x_ofInt]; exact x_wrap_u32 _
theorem x_and32 : Go.bits .and .u32 (x.toNat : Int) (y.toNat : Int) = ((x &&& y).toNat : Int) := by unfold Go.bits; simp only [IntKind.bits, x_ofInt]; exact x_wrap_u32 _
theorem x_xor32 : Go.bits .xor .u32 (x.toNat : Int) (y.toNat : Int) = ((x ^^^ y).toNat : Int) := by unfold Go.bits; simp only [IntKind.bits, x_ofInt]; exact x_wrap_u32 _
theorem x_shr32 (k : Nat) (hk : k ≤ 32) : shr .u32 (x.toNat : Int) (k : Int) = ((x >>> k).toNat : Int) := by
  unfold shr; rw [Int.toNat_natCast, show min k IntKind.u32.bits = k from Nat.min_eq_left hk, BitVec.toNat_ushiftRight, Nat.shiftRight_eq_div_pow]; simp
theorem x_shl32 (k : Nat) (hk : k ≤ 32) : shl .u32 (x.toNat : Int) (k : Int) = ((x <<< k).toNat : Int) := by
  unfold shl; rw [Int.toNat_natCast, show min k IntKind.u32.bits = k from Nat.min_eq_left hk, BitVec.toNat_shiftLeft, Nat.shiftLeft_eq, IntKind.wrap_u32]; simp
end
section
variable (x y : BitVec 64)
theorem x_or64 : Go.bits .or .u64 (x.toNat : Int) (y.toNat : Int) = ((x ||| y).toNat : Int) := by unfold Go.bits; simp only [IntKind.bits, x_ofInt]; exact x_wrap_u64 _
theorem x_and64 : Go.bits .and .u64 (x.toNat : Int) (y.toNat : Int) = ((x &&& y).toNat : Int) := by unfold Go.bits; simp only [IntKind.bits, x_ofInt]; exact x_wrap_u64 _
theorem x_xor64 : Go.bits .xor .u64 (x.toNat : Int) (y.toNat : Int) = ((x ^^^ y).toNat : Int) := by unfold Go.bits; simp only [IntKind.bits, x_ofInt]; exact x_wrap_u64 _
theorem x_shr64 (k : Nat) (hk : k ≤ 64) : shr .u64 (x.toNat : Int) (k : Int) = ((x >>> k).toNat : Int) := by
  unfold shr; rw [Int.toNat_natCast, show min k IntKind.u64.bits = k from Nat.min_eq_left hk, BitVec.toNat_ushiftRight, Nat.shiftRight_eq_div_pow]; simp
theorem x_shl64 (k : Nat) (hk : k ≤ 64) : shl .u64 (x.toNat : Int) (k : Int) = ((x <<< k).toNat : Int) := by
  unfold shl; rw [Int.toNat_natCast, show min k IntKind.u64.bits = k from Nat.min_eq_left hk, BitVec.toNat_shiftLeft, Nat.shiftLeft_eq, x_wrap_u64']; simp
end
/-- A number of its kind as a bit vector. -/
theorem x_as32 {n : Int} (h0 : 0 ≤ n) (h1 : n < 4294967296) : ∃ b : BitVec 32, n = (b.toNat : Int) := ⟨BitVec.ofNat 32 n.toNat, by rw [BitVec.toNat_ofNat, Nat.mod_eq_of_lt (by omega)]; omega⟩
theorem x_as8 {n : Int} (h0 : 0 ≤ n) (h1 : n < 256) : ∃ b : BitVec 8, n = (b.toNat : Int) := ⟨BitVec.ofNat 8 n.toNat, by rw [BitVec.toNat_ofNat, Nat.mod_eq_of_lt (by omega)]; omega⟩
theorem x_as64 {n : Int} (h0 : 0 ≤ n) (h1 : n < 18446744073709551616) : ∃ b : BitVec 64, n = (b.toNat : Int) := ⟨BitVec.ofNat 64 n.toNat, by rw [BitVec.toNat_ofNat, Nat.mod_eq_of_lt (by omega)]; omega⟩
theorem x_wf8 {n : Int} (h : (Lit.int .u8 n).wf = true) : 0 ≤ n ∧ n < 256 := by
  simp [Lit.wf, IntKind.min, IntKind.max, IntKind.signed, IntKind.bits] at h; omega
theorem x_wf32 {n : Int} (h : (Lit.int .u32 n).wf = true) : 0 ≤ n ∧ n < 4294967296 := by
  simp [Lit.wf, IntKind.min, IntKind.max, IntKind.signed, IntKind.bits] at h; omega
theorem x_wf64 {n : Int} (h : (Lit.int .u64 n).wf = true) : 0 ≤ n ∧ n < 18446744073709551616 := by
  simp [Lit.wf, IntKind.min, IntKind.max, IntKind.signed, IntKind.bits] at h; omega
theorem x_wfi {n : Int} (h : (Lit.int .i64 n).wf = true) : -9223372036854775808 ≤ n ∧ n ≤ 9223372036854775807 := by
  simp [Lit.wf, IntKind.min, IntKind.max, IntKind.signed, IntKind.bits] at h; omega
theorem x_w64 {n : Int} (h0 : -9223372036854775808 ≤ n) (h1 : n ≤ 9223372036854775807) : wrap64 n = n := by unfold wrap64; omega
theorem x_tmod (a b : Int) (hb : 0 < b) : Int.tmod a b = if 0 ≤ a then a % b else -((-a) % b) := by
  split
  · rename_i h; exact Int.tmod_eq_emod_of_nonneg h
  · rename_i h
    have : a = -(-a) := by omega
    rw [this, Int.neg_tmod, Int.tmod_eq_emod_of_nonneg (by omega)]; simp
theorem x_tdiv (a b : Int) (ha : 0 ≤ a) : Int.tdiv a b = a / b := Int.tdiv_eq_ediv_of_nonneg ha
/-- A word turned to the right. -/
def rotr (b : BitVec 32) (k : Nat) : BitVec 32 := b >>> k ||| b <<< (32 - k)
theorem rotr_get (b : BitVec 32) (k : Nat) (hk : k ≤ 32) (i : Nat) (hi : i < 32) : (rotr b k).getLsbD i = if i + k < 32 then b.getLsbD (i + k) else b.getLsbD (i + k - 32) := by
  unfold rotr
  rw [BitVec.getLsbD_or, BitVec.getLsbD_ushiftRight, BitVec.getLsbD_shiftLeft]
  split
  · rename_i h
    have : i < 32 - k := by omega
    simp [this, Nat.add_comm]
  · rename_i h
    have h1 : ¬ i < 32 - k := by omega
    have h2 : b.getLsbD (k + i) = false := BitVec.getLsbD_of_ge _ _ (by omega)
    simp [h1, h2, hi]
    congr 1
    omega
theorem rotr_rotr (b : BitVec 32) (j k : Nat) (h : j + k ≤ 32) : rotr (rotr b j) k = rotr b (j + k) := by
  apply BitVec.eq_of_getLsbD_eq
  intro i hi
  rw [rotr_get _ _ (by omega) _ hi, rotr_get _ _ h _ hi]
  split
  · rw [rotr_get _ _ (by omega) _ (by omega)]
    split <;> split <;> first | (congr 1; omega) | omega
  · rw [rotr_get _ _ (by omega) _ (by omega)]
    split <;> split <;> first | (congr 1; omega) | omega
theorem rotr_zero (b : BitVec 32) : rotr b 0 = b := by
  apply BitVec.eq_of_getLsbD_eq
  intro i hi
  rw [rotr_get _ _ (by omega) _ hi, if_pos (by omega)]
  rfl
theorem rotr_32 (b : BitVec 32) : rotr b 32 = b := by
  apply BitVec.eq_of_getLsbD_eq
  intro i hi
  rw [rotr_get _ _ (by omega) _ hi, if_neg (by omega)]
  rfl
theorem wsucc (i : Nat) (h : i ≤ 9223372036854775806) : wrap64 ((i : Int) + 1) = ((i + 1 : Nat) : Int) := by unfold wrap64; omega
theorem bind_to {α β : Type} {o : Option α} {a : α} {f : α → Option β} {r : Option β} (h : o = some a) (k : f a = r) : o.bind f = r := by rw [h]; exact k
/-! Bytes. -/
def IsB (l : List Int) : Prop := ∀ x ∈ l, 0 ≤ x ∧ x < 256
theorem IsB.wf {l : List Int} (h : ∀ x ∈ l, (Lit.int .u8 x).wf = true) : IsB l := fun x hx => x_wf8 (h x hx)
theorem IsB.nil : IsB [] := fun x hx => by simp at hx
theorem IsB.cons {x : Int} {l : List Int} (h0 : 0 ≤ x) (h1 : x < 256) (h : IsB l) : IsB (x :: l) := by
  intro y hy
  rcases List.mem_cons.1 hy with rfl | hy
  · exact ⟨h0, h1⟩
  · exact h y hy
theorem IsB.append {a b : List Int} (ha : IsB a) (hb : IsB b) : IsB (a ++ b) := fun x hx => by exact (List.mem_append.1 hx).elim (ha x) (hb x)
theorem IsB.take {a : List Int} (h : IsB a) (n : Nat) : IsB (a.take n) := fun x hx => h x (List.mem_of_mem_take hx)
theorem IsB.drop {a : List Int} (h : IsB a) (n : Nat) : IsB (a.drop n) := fun x hx => h x (List.mem_of_mem_drop hx)
theorem IsB.get {a : List Int} (h : IsB a) {i : Nat} (hi : i < a.length) : 0 ≤ a[i] ∧ a[i] < 256 := h _ (List.getElem_mem hi)
theorem str_eq {a b : List Int} (ha : IsB a) (hb : IsB b) : (strOfNums a).toList = (strOfNums b).toList ↔ a = b := by
  rw [ByteArray.toList_eq, ByteArray.toList_eq, strOfNums_data, strOfNums_data]
  constructor
  · intro h
    have hl : a.length = b.length := by simpa using congrArg List.length h
    apply List.ext_getElem hl
    intro i h1 h2
    have h3 : (a.map fun n => UInt8.ofNat n.toNat)[i]'(by simpa using h1) = (b.map fun n => UInt8.ofNat n.toNat)[i]'(by simpa using h2) := by simp only [h]
    simp only [List.getElem_map] at h3
    have h4 := congrArg UInt8.toNat h3
    have ga := ha.get h1
    have gb := hb.get h2
    simp only [UInt8.toNat_ofNat'] at h4
    rw [Nat.mod_eq_of_lt (by omega), Nat.mod_eq_of_lt (by omega)] at h4
    omega
  · rintro rfl; rfl
theorem str_beq {a b : List Int} (ha : IsB a) (hb : IsB b) : ((strOfNums a).toList == (strOfNums b).toList) = decide (a = b) := by
  rw [Bool.eq_iff_iff, beq_iff_eq, str_eq ha hb, decide_eq_true_eq]
theorem rd_get (l : List Int) (i : Nat) (h : i < l.length) : rd l (i : Int) = l[i] := by simp [rd, List.getD_eq_getElem?_getD, List.getElem?_eq_getElem h]
end Go.Proofs.YtbkchjiiaehhpaaW.PrintMore
