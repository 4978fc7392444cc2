/- Proved: carillonlaw01.WordBack returns true: a word and a long put behind any bytes are loaded from their places, and what stood ahead stays. Conditions: none. -/
import Derived.Test.YtedgfhnjmlefnaaPWordx4
import Derived.Test.YtedgfhnjmlefnaaX1Pure
namespace Go.Proofs.Ytedgfhnjmlefnaa.Pure
open Go.RowKit Go.Proofs.Ytedgfhnjmlefnaa.PWord Go.Proofs.YtedgfhnjmlefnaaW.PrintWords Go.Proofs.YtedgfhnjmlefnaaW.PrintLast Go.Proofs.YtedgfhnjmlefnaaW.PrintMore
set_option linter.unusedVariables false
set_option linter.unusedSimpArgs false
theorem own_is (l : List Int) (n : Int) (h0 : 0 ≤ n) (h : (l.length : Int) + n ≤ 281474976710656) : word_own.f l n = some l := by
  unfold word_own.f; rw [if_pos ⟨h0, h⟩]
/-! What spread, Put and PutLong write. -/
def bytesBE : Nat → Int → List Int
  | 0, _ => []
  | n + 1, x => (x / 2 ^ (8 * n)) % 256 :: bytesBE n x
theorem bytesBE_len (n : Nat) (x : Int) : (bytesBE n x).length = n := by induction n with | zero => rfl | succ n ih => simp [bytesBE, ih]
theorem bytesBE_b (n : Nat) (x : Int) : IsB (bytesBE n x) := by
  induction n with
  | zero => exact IsB.nil
  | succ n ih => exact IsB.cons (by omega) (by omega) ih
theorem spread_loop (x : Int) : ∀ (n k : Nat) (p : List Int), n ≤ 8 → n < k → p.length + n ≤ 140737488355328 → word_spread.l0 k p x ((n : Int) - 1) = some (p ++ bytesBE n x) := by
  intro n
  induction n with
  | zero =>
    intro k p h8 hk hp
    obtain ⟨k, rfl⟩ : ∃ m, k = m + 1 := ⟨k - 1, by omega⟩
    simp only [word_spread.l0]
    rw [if_neg (by omega)]
    simp [bytesBE]
  | succ n ih =>
    intro k p h8 hk hp
    obtain ⟨k, rfl⟩ : ∃ m, k = m + 1 := ⟨k - 1, by omega⟩
    simp only [word_spread.l0]
    have e1 : wrap64 (8 * (((n + 1 : Nat) : Int) - 1)) = ((8 * n : Nat) : Int) := by unfold wrap64; omega
    have e2 : wrap64 (((n + 1 : Nat) : Int) - 1 - 1) = (n : Int) - 1 := by unfold wrap64; omega
    have e3 : shr .u64 x ((8 * n : Nat) : Int) = x / 2 ^ (8 * n) := by
      unfold shr; rw [Int.toNat_natCast, show min (8 * n) IntKind.u64.bits = 8 * n from Nat.min_eq_left (by show 8 * n ≤ 64; omega)]
    rw [if_pos (by omega), e1, if_pos (by omega), if_pos (by omega), e2, e3, ih k _ (by omega) (by omega) (by simp; omega)]
    simp [bytesBE]
theorem spread_is (x : Int) (n k : Nat) (p : List Int) (h8 : n ≤ 8) (hk : n < k) (hp : p.length + 16 ≤ 140737488355328) : word_spread.f k p x (n : Int) = some (p ++ bytesBE n x) := by
  unfold word_spread.f
  rw [show wrap64 ((n : Int) - 1) = (n : Int) - 1 by unfold wrap64; omega]
  exact spread_loop x n k p h8 hk (by omega)
theorem putlong_is (p : List Int) (x : Int) (k : Nat) (hk : 8 < k) (hp : p.length ≤ 140737488351300) : word_PutLong.f k p x = some (p ++ bytesBE 8 x) := by
  unfold word_PutLong.f
  rw [own_is _ _ (by omega) (by omega)]
  simp only [Option.bind_some]
  have := spread_is x 8 k p (by omega) hk (by omega)
  rw [show ((8 : Nat) : Int) = 8 from rfl] at this
  rw [this]
  rfl
theorem put_loop (l : List Int) (hl : ∀ x ∈ l, 0 ≤ x ∧ x < 4294967296) (hn : l.length ≤ 100) : ∀ (d k i : Nat) (p : List Int), i + d = l.length → d + 8 < k → p.length + 4 * d ≤ 140737488355000 →
    word_Put.l0 k p l (l.length : Int) (i : Int) = some (p ++ (l.drop i).flatMap (bytesBE 4)) := by
  intro d
  induction d with
  | zero =>
    intro k i p hi hk hp
    obtain ⟨k, rfl⟩ : ∃ m, k = m + 1 := ⟨k - 1, by omega⟩
    simp only [word_Put.l0]
    rw [if_neg (by omega), List.drop_of_length_le (by omega)]
    simp
  | succ d ih =>
    intro k i p hi hk hp
    obtain ⟨k, rfl⟩ : ∃ m, k = m + 1 := ⟨k - 1, by omega⟩
    simp only [word_Put.l0]
    have e3 : wrap64 ((i : Int) + 1) = ((i + 1 : Nat) : Int) := by unfold wrap64; omega
    have hb := hl _ (List.getElem_mem (show i < l.length by omega))
    have e4 : IntKind.u64.wrap (l[i]'(by omega)) = l[i]'(by omega) := by rw [x_wrap_u64']; omega
    have := spread_is (l[i]'(by omega)) 4 k p (by omega) (by omega) (by omega)
    rw [show ((4 : Nat) : Int) = 4 from rfl] at this
    rw [if_pos (by omega), if_pos (by omega), if_pos (by omega), e3, rd_get l i (by omega), e4, this]
    simp only [Option.bind_some]
    rw [ih k (i + 1) _ (by omega) (by omega) (by simp [bytesBE_len]; omega), List.drop_eq_getElem_cons (show i < l.length by omega), List.flatMap_cons, List.append_assoc]
theorem put_is (p l : List Int) (hl : ∀ x ∈ l, 0 ≤ x ∧ x < 4294967296) (hn : l.length ≤ 100) (k : Nat) (hk : l.length + 8 < k) (hp : p.length ≤ 140737488351300) : word_Put.f k p l = some (p ++ l.flatMap (bytesBE 4)) := by
  unfold word_Put.f
  rw [show wrap64 (4 * (l.length : Int)) = 4 * (l.length : Int) by unfold wrap64; omega, own_is _ _ (by omega) (by omega)]
  simp only [Option.bind_some]
  have := put_loop l hl hn l.length k 0 p (by omega) hk (by omega)
  simpa using this
theorem wraps_u32' (n : Int) (h₀ : 0 ≤ n) (h₁ : n < 2 ^ 32) : IntKind.u32.wrap n = n := by rw [IntKind.wrap_u32]; omega
theorem wraps_u64' (n : Int) (h₀ : 0 ≤ n) (h₁ : n < 2 ^ 64) : IntKind.u64.wrap n = n := by rw [x_wrap_u64']; omega
theorem g32 (x c : Int) (h0 : 0 ≤ x) (h1 : x < 16777216) (c0 : 0 ≤ c) (c1 : c < 256) : Go.bits .or .u32 ((x * 256) % 4294967296) (c % 4294967296) = x * 256 + c := by
  rw [show (x * 256) % 4294967296 = x * 256 by omega, show c % 4294967296 = c by omega]
  exact bits_join .u32 32 (by decide) wraps_u32' 8 _ _ (by omega) (by omega) (by omega) c0 (by omega) (by omega)
theorem g64 (x c : Int) (h0 : 0 ≤ x) (h1 : x < 72057594037927936) (c0 : 0 ≤ c) (c1 : c < 256) : Go.bits .or .u64 (IntKind.u64.wrap (x * 256)) (IntKind.u64.wrap c) = x * 256 + c := by
  rw [x_wrap_u64', x_wrap_u64', show (x * 256) % 18446744073709551616 = x * 256 by omega, show c % 18446744073709551616 = c by omega]
  exact bits_join .u64 64 (by decide) wraps_u64' 8 _ _ (by omega) (by omega) (by omega) c0 (by omega) (by omega)
theorem div_step (x : Int) (n : Nat) : x / 2 ^ (8 * (n + 1)) * 256 + x / 2 ^ (8 * n) % 256 = x / 2 ^ (8 * n) := by
  have e : (2 : Int) ^ (8 * (n + 1)) = 2 ^ (8 * n) * 256 := by rw [Nat.mul_add, Int.pow_add]; rfl
  have hp : (0 : Int) < 2 ^ (8 * n) := Int.pow_pos (by decide)
  rw [e, ← Int.ediv_ediv_of_nonneg (Int.le_of_lt hp)]
  omega
theorem div_lt (x : Int) (m n b : Nat) (h1 : x < 2 ^ m) (h : m ≤ b + n) : x / 2 ^ n < 2 ^ b := by
  have hp : (0 : Int) < 2 ^ n := Int.pow_pos (by decide)
  apply Int.ediv_lt_of_lt_mul hp
  rw [← Int.pow_add]
  exact Int.lt_of_lt_of_le h1 (by exact_mod_cast Nat.pow_le_pow_right (by decide) h)
theorem gath32_bytes (x : Int) (h0 : 0 ≤ x) (h1 : x < 4294967296) : x_gath32 (bytesBE 4 x) = x := by
  have main : ∀ n, n ≤ 4 → (bytesBE n x).foldl (fun x c => Go.bits .or .u32 ((x * 256) % 4294967296) (c % 4294967296)) (x / 2 ^ (8 * n)) = x := by
    intro n
    induction n with
    | zero => intro _; simp [bytesBE]
    | succ n ih =>
      intro h
      have hd := div_lt x 32 (8 * (n + 1)) 24 (by simpa using h1) (by omega)
      have hn : 0 ≤ x / 2 ^ (8 * (n + 1)) := Int.ediv_nonneg h0 (Int.le_of_lt (Int.pow_pos (by decide)))
      rw [bytesBE, List.foldl_cons, g32 _ _ hn hd (by omega) (by omega), div_step, ih (by omega)]
  have := main 4 (by omega)
  rw [show x / 2 ^ (8 * 4) = 0 from Int.ediv_eq_zero_of_lt h0 (by simpa using h1)] at this
  exact this
theorem gath64_bytes (x : Int) (h0 : 0 ≤ x) (h1 : x < 18446744073709551616) : x_gath64 (bytesBE 8 x) = x := by
  have main : ∀ n, n ≤ 8 → (bytesBE n x).foldl (fun x c => Go.bits .or .u64 (IntKind.u64.wrap (x * 256)) (IntKind.u64.wrap c)) (x / 2 ^ (8 * n)) = x := by
    intro n
    induction n with
    | zero => intro _; simp [bytesBE]
    | succ n ih =>
      intro h
      have hd := div_lt x 64 (8 * (n + 1)) 56 (by rw [show (2 : Int) ^ 64 = 18446744073709551616 by decide]; exact h1) (by omega)
      have hn : 0 ≤ x / 2 ^ (8 * (n + 1)) := Int.ediv_nonneg h0 (Int.le_of_lt (Int.pow_pos (by decide)))
      rw [bytesBE, List.foldl_cons, g64 _ _ hn hd (by omega) (by omega), div_step, ih (by omega)]
  have h8 := main 8 (by omega)
  have hz : x / 2 ^ (8 * 8) = 0 := Int.ediv_eq_zero_of_lt h0 (by rw [show (2 : Int) ^ (8 * 8) = 18446744073709551616 by decide]; exact h1)
  rw [hz] at h8
  unfold x_gath64
  exact h8
theorem back_load (l m : List Int) (x : Int) (hl : l.length + 4 + m.length ≤ 140737488355328) (x0 : 0 ≤ x) (x1 : x < 4294967296) : word_Load.f (l ++ bytesBE 4 x ++ m) (l.length : Int) = some (x, 0) := by
  unfold word_Load.f
  rw [if_pos (by simp [bytesBE_len]; omega), if_pos (by simp [bytesBE_len]; omega)]
  rw [Int.toNat_natCast, List.append_assoc, List.drop_left, List.take_left' (bytesBE_len 4 x), gath32_bytes x x0 x1]
theorem back_long (l m : List Int) (x : Int) (hl : l.length + 8 + m.length ≤ 140737488355328) (x0 : 0 ≤ x) (x1 : x < 18446744073709551616) : word_Long.f (l ++ bytesBE 8 x ++ m) (l.length : Int) = some (x, 0) := by
  unfold word_Long.f
  rw [if_pos (by simp [bytesBE_len]; omega), if_pos (by simp [bytesBE_len]; omega)]
  rw [Int.toNat_natCast, List.append_assoc, List.drop_left, List.take_left' (bytesBE_len 8 x), gath64_bytes x x0 x1]
theorem back_all (l t : List Int) (h12 : t.length = l.length + 12) (hl : l.length ≤ 140737488351232) (ht : t.take l.length = l) (x n : Int) :
    (if (t.length : Int) = (wrap64 ((l.length : Int) + 12)) then (if 0 ≤ (l.length : Int) then (if (l.length : Int) ≤ (t.length : Int) then (some ((strOfNums (t.take ((l.length : Int) : Int).toNat)).toList == (strOfNums l).toList)) else (none)) else (none)) else (some false)) = some true := by
  rw [if_pos (by rw [h12]; unfold wrap64; omega), if_pos (by omega), if_pos (by omega), Int.toNat_natCast, ht]
  simp
theorem WordBack : carillonlaw01_WordBack.Pure := by
  intro l x n _ hl hlb hx hn
  obtain ⟨x0, x1⟩ := x_wf32 hx
  obtain ⟨n0, n1⟩ := x_wf64 hn
  refine ⟨20, ?_⟩
  unfold carillonlaw01_WordBack.f
  have h1 : word_Put.f 20 l [x] = some (l ++ bytesBE 4 x) := by
    have := put_is l [x] (by simp; omega) (by simp) 20 (by simp) (by omega)
    simpa using this
  have hw : wrap64 ((l.length : Int) + 4) = ((l ++ bytesBE 4 x).length : Int) := by rw [List.length_append, bytesBE_len]; unfold wrap64; omega
  have h2 := back_long (l ++ bytesBE 4 x) [] n (by simp [bytesBE_len]; omega) n0 n1
  rw [List.append_nil] at h2
  refine bind_to h1 (bind_to (putlong_is _ n _ (by omega) (by simp [bytesBE_len]; omega)) (bind_to (back_load l _ x (by simp [bytesBE_len]; omega) x0 x1) ?_))
  rw [hw]
  refine bind_to h2 ?_
  rw [if_pos rfl, if_pos rfl, if_pos rfl, if_pos rfl]
  exact back_all l (l ++ bytesBE 4 x ++ bytesBE 8 n) (by simp [bytesBE_len]) (by omega) (by rw [List.append_assoc, List.take_left]) x n
end Go.Proofs.Ytedgfhnjmlefnaa.Pure
