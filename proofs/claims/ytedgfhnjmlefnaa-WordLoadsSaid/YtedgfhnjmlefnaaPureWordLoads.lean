/- Proved: carillonlaw01.WordLoads returns true: the words at any place of any bytes, and those put behind any bytes, are as the document says. Conditions: none. -/
import Derived.Test.YtedgfhnjmlefnaaPWordx7
import Derived.Test.YtedgfhnjmlefnaaX1Pure
namespace Go.Proofs.Ytedgfhnjmlefnaa.Pure
open Go.RowKit Go.Proofs.Ytedgfhnjmlefnaa.PWord Go.Proofs.YtedgfhnjmlefnaaW.PrintWords Go.Proofs.YtedgfhnjmlefnaaW.PrintLast Go.Proofs.YtedgfhnjmlefnaaW.PrintMore
set_option linter.unusedVariables false
set_option linter.unusedSimpArgs false
theorem turn_is (x : BitVec 32) (n : Int) (h0 : -9223372036854775808 ≤ n) (h1 : n ≤ 9223372036854775807) : word_Turn.f (x.toNat : Int) n = some ((rotr x (n % 32).toNat).toNat : Int) := by
  have e1 : Int.tmod (IntKind.u64.wrap (wrap64 ((Int.tmod n 32) + 32))) 32 = n % 32 := by
    rw [x_tmod n 32 (by omega)]
    have e2 : wrap64 ((if 0 ≤ n then n % 32 else -((-n) % 32)) + 32) = (if 0 ≤ n then n % 32 else -((-n) % 32)) + 32 := by
      apply x_w64 <;> split <;> omega
    rw [e2, x_wrap_u64', x_tmod _ 32 (by omega)]
    split <;> split <;> omega
  unfold word_Turn.f
  rw [e1]
  have e3 : IntKind.u64.wrap (32 - n % 32) = 32 - n % 32 := by rw [x_wrap_u64']; omega
  rw [e3, if_pos (by omega), if_pos (by omega)]
  obtain ⟨k, hk⟩ : ∃ k : Nat, n % 32 = (k : Int) := ⟨(n % 32).toNat, by omega⟩
  have hk32 : k ≤ 32 := by omega
  rw [hk, show (32 : Int) - (k : Int) = ((32 - k : Nat) : Int) by omega, x_shr32 _ _ hk32, x_shl32 _ _ (by omega), x_or32]
  rfl
theorem awake_is : carillonlaw01_awake.f = some true := by
  have := turn_is 1 1 (by omega) (by omega)
  unfold carillonlaw01_awake.f
  rw [show ((1 : BitVec 32).toNat : Int) = 1 from rfl] at this
  rw [this]
  decide
theorem own_is (l : List Int) (n : Int) (h0 : 0 ≤ n) (h : (l.length : Int) + n ≤ 281474976710656) : word_own.f l n = some l := by
  unfold word_own.f; rw [if_pos ⟨h0, h⟩]
/-! What spread, Put and PutLong write. -/
def bytesBE : Nat → Int → List Int
  | 0, _ => []
  | n + 1, x => (x / 2 ^ (8 * n)) % 256 :: bytesBE n x
theorem bytesBE_len (n : Nat) (x : Int) : (bytesBE n x).length = n := by induction n with | zero => rfl | succ n ih => simp [bytesBE, ih]
theorem bytesBE_b (n : Nat) (x : Int) : IsB (bytesBE n x) := by
  induction n with
  | zero => exact IsB.nil
  | succ n ih => exact IsB.cons (by omega) (by omega) ih
theorem spread_loop (x : Int) : ∀ (n k : Nat) (p : List Int), n ≤ 8 → n < k → p.length + n ≤ 140737488355328 → word_spread.l0 k p x ((n : Int) - 1) = some (p ++ bytesBE n x) := by
  intro n
  induction n with
  | zero =>
    intro k p h8 hk hp
    obtain ⟨k, rfl⟩ : ∃ m, k = m + 1 := ⟨k - 1, by omega⟩
    simp only [word_spread.l0]
    rw [if_neg (by omega)]
    simp [bytesBE]
  | succ n ih =>
    intro k p h8 hk hp
    obtain ⟨k, rfl⟩ : ∃ m, k = m + 1 := ⟨k - 1, by omega⟩
    simp only [word_spread.l0]
    have e1 : wrap64 (8 * (((n + 1 : Nat) : Int) - 1)) = ((8 * n : Nat) : Int) := by unfold wrap64; omega
    have e2 : wrap64 (((n + 1 : Nat) : Int) - 1 - 1) = (n : Int) - 1 := by unfold wrap64; omega
    have e3 : shr .u64 x ((8 * n : Nat) : Int) = x / 2 ^ (8 * n) := by
      unfold shr; rw [Int.toNat_natCast, show min (8 * n) IntKind.u64.bits = 8 * n from Nat.min_eq_left (by show 8 * n ≤ 64; omega)]
    rw [if_pos (by omega), e1, if_pos (by omega), if_pos (by omega), e2, e3, ih k _ (by omega) (by omega) (by simp; omega)]
    simp [bytesBE]
theorem spread_is (x : Int) (n k : Nat) (p : List Int) (h8 : n ≤ 8) (hk : n < k) (hp : p.length + 16 ≤ 140737488355328) : word_spread.f k p x (n : Int) = some (p ++ bytesBE n x) := by
  unfold word_spread.f
  rw [show wrap64 ((n : Int) - 1) = (n : Int) - 1 by unfold wrap64; omega]
  exact spread_loop x n k p h8 hk (by omega)
theorem putlong_is (p : List Int) (x : Int) (k : Nat) (hk : 8 < k) (hp : p.length ≤ 140737488351300) : word_PutLong.f k p x = some (p ++ bytesBE 8 x) := by
  unfold word_PutLong.f
  rw [own_is _ _ (by omega) (by omega)]
  simp only [Option.bind_some]
  have := spread_is x 8 k p (by omega) hk (by omega)
  rw [show ((8 : Nat) : Int) = 8 from rfl] at this
  rw [this]
  rfl
theorem put_loop (l : List Int) (hl : ∀ x ∈ l, 0 ≤ x ∧ x < 4294967296) (hn : l.length ≤ 100) : ∀ (d k i : Nat) (p : List Int), i + d = l.length → d + 8 < k → p.length + 4 * d ≤ 140737488355000 →
    word_Put.l0 k p l (l.length : Int) (i : Int) = some (p ++ (l.drop i).flatMap (bytesBE 4)) := by
  intro d
  induction d with
  | zero =>
    intro k i p hi hk hp
    obtain ⟨k, rfl⟩ : ∃ m, k = m + 1 := ⟨k - 1, by omega⟩
    simp only [word_Put.l0]
    rw [if_neg (by omega), List.drop_of_length_le (by omega)]
    simp
  | succ d ih =>
    intro k i p hi hk hp
    obtain ⟨k, rfl⟩ : ∃ m, k = m + 1 := ⟨k - 1, by omega⟩
    simp only [word_Put.l0]
    have e3 : wrap64 ((i : Int) + 1) = ((i + 1 : Nat) : Int) := by unfold wrap64; omega
    have hb := hl _ (List.getElem_mem (show i < l.length by omega))
    have e4 : IntKind.u64.wrap (l[i]'(by omega)) = l[i]'(by omega) := by rw [x_wrap_u64']; omega
    have := spread_is (l[i]'(by omega)) 4 k p (by omega) (by omega) (by omega)
    rw [show ((4 : Nat) : Int) = 4 from rfl] at this
    rw [if_pos (by omega), if_pos (by omega), if_pos (by omega), e3, rd_get l i (by omega), e4, this]
    simp only [Option.bind_some]
    rw [ih k (i + 1) _ (by omega) (by omega) (by simp [bytesBE_len]; omega), List.drop_eq_getElem_cons (show i < l.length by omega), List.flatMap_cons, List.append_assoc]
theorem put_is (p l : List Int) (hl : ∀ x ∈ l, 0 ≤ x ∧ x < 4294967296) (hn : l.length ≤ 100) (k : Nat) (hk : l.length + 8 < k) (hp : p.length ≤ 140737488351300) : word_Put.f k p l = some (p ++ l.flatMap (bytesBE 4)) := by
  unfold word_Put.f
  rw [show wrap64 (4 * (l.length : Int)) = 4 * (l.length : Int) by unfold wrap64; omega, own_is _ _ (by omega) (by omega)]
  simp only [Option.bind_some]
  have := put_loop l hl hn l.length k 0 p (by omega) hk (by omega)
  simpa using this
theorem wraps_u32' (n : Int) (h₀ : 0 ≤ n) (h₁ : n < 2 ^ 32) : IntKind.u32.wrap n = n := by rw [IntKind.wrap_u32]; omega
theorem wraps_u64' (n : Int) (h₀ : 0 ≤ n) (h₁ : n < 2 ^ 64) : IntKind.u64.wrap n = n := by rw [x_wrap_u64']; omega
theorem g32 (x c : Int) (h0 : 0 ≤ x) (h1 : x < 16777216) (c0 : 0 ≤ c) (c1 : c < 256) : Go.bits .or .u32 ((x * 256) % 4294967296) (c % 4294967296) = x * 256 + c := by
  rw [show (x * 256) % 4294967296 = x * 256 by omega, show c % 4294967296 = c by omega]
  exact bits_join .u32 32 (by decide) wraps_u32' 8 _ _ (by omega) (by omega) (by omega) c0 (by omega) (by omega)
theorem g64 (x c : Int) (h0 : 0 ≤ x) (h1 : x < 72057594037927936) (c0 : 0 ≤ c) (c1 : c < 256) : Go.bits .or .u64 (IntKind.u64.wrap (x * 256)) (IntKind.u64.wrap c) = x * 256 + c := by
  rw [x_wrap_u64', x_wrap_u64', show (x * 256) % 18446744073709551616 = x * 256 by omega, show c % 18446744073709551616 = c by omega]
  exact bits_join .u64 64 (by decide) wraps_u64' 8 _ _ (by omega) (by omega) (by omega) c0 (by omega) (by omega)
theorem div_step (x : Int) (n : Nat) : x / 2 ^ (8 * (n + 1)) * 256 + x / 2 ^ (8 * n) % 256 = x / 2 ^ (8 * n) := by
  have e : (2 : Int) ^ (8 * (n + 1)) = 2 ^ (8 * n) * 256 := by rw [Nat.mul_add, Int.pow_add]; rfl
  have hp : (0 : Int) < 2 ^ (8 * n) := Int.pow_pos (by decide)
  rw [e, ← Int.ediv_ediv_of_nonneg (Int.le_of_lt hp)]
  omega
theorem div_lt (x : Int) (m n b : Nat) (h1 : x < 2 ^ m) (h : m ≤ b + n) : x / 2 ^ n < 2 ^ b := by
  have hp : (0 : Int) < 2 ^ n := Int.pow_pos (by decide)
  apply Int.ediv_lt_of_lt_mul hp
  rw [← Int.pow_add]
  exact Int.lt_of_lt_of_le h1 (by exact_mod_cast Nat.pow_le_pow_right (by decide) h)
theorem gath32_bytes (x : Int) (h0 : 0 ≤ x) (h1 : x < 4294967296) : x_gath32 (bytesBE 4 x) = x := by
  have main : ∀ n, n ≤ 4 → (bytesBE n x).foldl (fun x c => Go.bits .or .u32 ((x * 256) % 4294967296) (c % 4294967296)) (x / 2 ^ (8 * n)) = x := by
    intro n
    induction n with
    | zero => intro _; simp [bytesBE]
    | succ n ih =>
      intro h
      have hd := div_lt x 32 (8 * (n + 1)) 24 (by simpa using h1) (by omega)
      have hn : 0 ≤ x / 2 ^ (8 * (n + 1)) := Int.ediv_nonneg h0 (Int.le_of_lt (Int.pow_pos (by decide)))
      rw [bytesBE, List.foldl_cons, g32 _ _ hn hd (by omega) (by omega), div_step, ih (by omega)]
  have := main 4 (by omega)
  rw [show x / 2 ^ (8 * 4) = 0 from Int.ediv_eq_zero_of_lt h0 (by simpa using h1)] at this
  exact this
theorem gath64_bytes (x : Int) (h0 : 0 ≤ x) (h1 : x < 18446744073709551616) : x_gath64 (bytesBE 8 x) = x := by
  have main : ∀ n, n ≤ 8 → (bytesBE n x).foldl (fun x c => Go.bits .or .u64 (IntKind.u64.wrap (x * 256)) (IntKind.u64.wrap c)) (x / 2 ^ (8 * n)) = x := by
    intro n
    induction n with
    | zero => intro _; simp [bytesBE]
    | succ n ih =>
      intro h
      have hd := div_lt x 64 (8 * (n + 1)) 56 (by rw [show (2 : Int) ^ 64 = 18446744073709551616 by decide]; exact h1) (by omega)
      have hn : 0 ≤ x / 2 ^ (8 * (n + 1)) := Int.ediv_nonneg h0 (Int.le_of_lt (Int.pow_pos (by decide)))
      rw [bytesBE, List.foldl_cons, g64 _ _ hn hd (by omega) (by omega), div_step, ih (by omega)]
  have h8 := main 8 (by omega)
  have hz : x / 2 ^ (8 * 8) = 0 := Int.ediv_eq_zero_of_lt h0 (by rw [show (2 : Int) ^ (8 * 8) = 18446744073709551616 by decide]; exact h1)
  rw [hz] at h8
  unfold x_gath64
  exact h8
def horner (l : List Int) : Int := l.foldl (fun x c => x * 256 + c) 0
theorem horner_fold (l : List Int) (h : IsB l) : ∀ (n : Nat) (x : Int), n + l.length ≤ 8 → 0 ≤ x → x < 2 ^ (8 * n) → l.foldl (fun x c => Go.bits .or .u64 (IntKind.u64.wrap (x * 256)) (IntKind.u64.wrap c)) x = l.foldl (fun x c => x * 256 + c) x ∧ 0 ≤ l.foldl (fun x c => x * 256 + c) x ∧ l.foldl (fun x c => x * 256 + c) x < 2 ^ (8 * (n + l.length)) := by
  induction l with
  | nil => intro n x _ h0 h1; exact ⟨rfl, h0, h1⟩
  | cons a l ih =>
    intro n x hn h0 h1
    have ha := h a (by simp)
    have hn' : n + l.length ≤ 7 := by simp at hn; omega
    have hx : x < 72057594037927936 := by
      have : (2 : Int) ^ (8 * n) ≤ 2 ^ 56 := by exact_mod_cast Nat.pow_le_pow_right (by decide) (by omega)
      exact Int.lt_of_lt_of_le h1 (by simpa using this)
    have e : (2 : Int) ^ (8 * (n + 1)) = 2 ^ (8 * n) * 256 := by rw [Nat.mul_add, Int.pow_add]; rfl
    have := ih (fun y hy => h y (by simp [hy])) (n + 1) (x * 256 + a) (by omega) (by omega) (by rw [e]; omega)
    rw [List.foldl_cons, List.foldl_cons, g64 x a h0 hx ha.1 ha.2]
    rw [show n + (a :: l).length = n + 1 + l.length by simp; omega]
    exact this
theorem horner_fold32 (l : List Int) (h : IsB l) : ∀ (n : Nat) (x : Int), n + l.length ≤ 4 → 0 ≤ x → x < 2 ^ (8 * n) → l.foldl (fun x c => Go.bits .or .u32 ((x * 256) % 4294967296) (c % 4294967296)) x = l.foldl (fun x c => x * 256 + c) x := by
  induction l with
  | nil => intro n x _ h0 h1; rfl
  | cons a l ih =>
    intro n x hn h0 h1
    have ha := h a (by simp)
    have hn' : n + l.length ≤ 3 := by simp at hn; omega
    have hx : x < 16777216 := by
      have : (2 : Int) ^ (8 * n) ≤ 2 ^ 24 := by exact_mod_cast Nat.pow_le_pow_right (by decide) (by omega)
      exact Int.lt_of_lt_of_le h1 (by simpa using this)
    have e : (2 : Int) ^ (8 * (n + 1)) = 2 ^ (8 * n) * 256 := by rw [Nat.mul_add, Int.pow_add]; rfl
    rw [List.foldl_cons, List.foldl_cons, g32 x a h0 hx ha.1 ha.2]
    exact ih (fun y hy => h y (by simp [hy])) (n + 1) (x * 256 + a) (by omega) (by omega) (by rw [e]; omega)
theorem load_loop (l : List Int) (hl : l.length ≤ 140737488351232) (a n : Nat) (ha : a + n ≤ l.length) : ∀ (d k i : Nat) (x : Int), i + d = n → d < k →
    carillonref01_load.l0 k l (a : Int) (n : Int) x (i : Int) = some (((l.drop (a + i)).take d).foldl (fun x c => Go.bits .or .u64 (IntKind.u64.wrap (x * 256)) (IntKind.u64.wrap c)) x, 0) := by
  intro d
  induction d with
  | zero =>
    intro k i x hi hk
    obtain ⟨k, rfl⟩ : ∃ m, k = m + 1 := ⟨k - 1, by omega⟩
    rw [carillonref01_load.l0, if_neg (by omega)]
    simp
  | succ d ih =>
    intro k i x hi hk
    obtain ⟨k, rfl⟩ : ∃ m, k = m + 1 := ⟨k - 1, by omega⟩
    have e : wrap64 ((a : Int) + (i : Int)) = ((a + i : Nat) : Int) := by unfold wrap64; omega
    rw [carillonref01_load.l0, if_pos (by omega), e, if_pos (by omega), if_pos (by omega), wsucc i (by omega), rd_get l (a + i) (by omega), ih k (i + 1) _ (by omega) (by omega)]
    rw [List.drop_eq_getElem_cons (show a + i < l.length by omega), List.take_succ_cons, List.foldl_cons]
    rfl
theorem rload_is (l : List Int) (hl : l.length ≤ 140737488351232) (a : Int) (n : Nat) (hn : n ≤ 8) (k : Nat) (hk : n + 1 < k) :
    carillonref01_load.f k l a (n : Int) = some (if 0 ≤ a ∧ a + n ≤ l.length then (x_gath64 ((l.drop a.toNat).take n), 0) else (0, 1)) := by
  obtain ⟨k, rfl⟩ : ∃ m, k = m + 1 := ⟨k - 1, by omega⟩
  have hw : wrap64 ((l.length : Int) - (n : Int)) = (l.length : Int) - (n : Int) := by unfold wrap64; omega
  unfold carillonref01_load.f
  rw [hw]
  by_cases h0 : a < 0
  · rw [if_pos h0, if_neg (by omega), carillonref01_load.j0, if_pos rfl]
  · rw [if_neg h0, carillonref01_load.j0]
    by_cases h1 : a > (l.length : Int) - (n : Int)
    · rw [if_pos (by simpa using h1), if_neg (by omega)]
    · rw [if_neg (by simpa using h1), if_pos (by omega)]
      obtain ⟨b, rfl⟩ := Int.eq_ofNat_of_zero_le (show 0 ≤ a by omega)
      have := load_loop l hl b n (by omega) n k 0 0 (by omega) (by omega)
      simpa [x_gath64] using this
theorem Load_same (l : List Int) (hb : IsB l) (hl : l.length ≤ 140737488351232) (a : Int) (k : Nat) (hk : 20 < k) : ∃ p, word_Load.f l a = some p ∧ carillonref01_Load.f k l a = some p := by
  have h4 := rload_is l hl a 4 (by omega) k (by omega)
  rw [show ((4 : Nat) : Int) = 4 from rfl] at h4
  refine ⟨_, by unfold word_Load.f; rw [if_pos (by omega)], ?_⟩
  unfold carillonref01_Load.f
  refine bind_to h4 ?_
  by_cases h : 0 ≤ a ∧ a + 4 ≤ (l.length : Int)
  · rw [if_pos h, if_pos h]
    have hb2 : IsB ((l.drop a.toNat).take 4) := (hb.drop _).take _
    have hlen : ((l.drop a.toNat).take 4).length = 4 := by simp; omega
    have f1 := horner_fold _ hb2 0 0 (by omega) (by omega) (by simp)
    have f2 := horner_fold32 _ hb2 0 0 (by omega) (by omega) (by simp)
    rw [hlen] at f1
    have e : x_gath64 ((l.drop a.toNat).take 4) % 4294967296 = x_gath32 ((l.drop a.toNat).take 4) := by
      unfold x_gath64 x_gath32
      rw [f1.1, f2]
      have := f1.2.2
      simp at this
      omega
    show some (x_gath64 ((l.drop a.toNat).take 4) % 4294967296, (0 : Int)) = some (x_gath32 ((l.drop a.toNat).take 4), (0 : Int))
    rw [e]
  · rw [if_neg h, if_neg h]
    rfl
theorem Long_same (l : List Int) (hl : l.length ≤ 140737488351232) (a : Int) (k : Nat) (hk : 20 < k) : ∃ p, word_Long.f l a = some p ∧ carillonref01_Long.f k l a = some p := by
  have h8 := rload_is l hl a 8 (by omega) k (by omega)
  rw [show ((8 : Nat) : Int) = 8 from rfl] at h8
  refine ⟨_, by unfold word_Long.f; rw [if_pos (by omega)], ?_⟩
  unfold carillonref01_Long.f
  exact bind_to h8 rfl
theorem bytes4 (x : Int) : ([(x / 16777216) % 256, (x / 65536) % 256, (x / 256) % 256, x % 256] : List Int) = bytesBE 4 x := by
  simp [bytesBE]
theorem rput_loop (l : List Int) (hn : l.length ≤ 100) : ∀ (d k i : Nat) (p : List Int), i + d = l.length → d < k → p.length + 4 * d ≤ 140737488355000 →
    carillonref01_Put.l0 k l p (i : Int) = some (p ++ (l.drop i).flatMap (bytesBE 4)) := by
  intro d
  induction d with
  | zero =>
    intro k i p hi hk hp
    obtain ⟨k, rfl⟩ : ∃ m, k = m + 1 := ⟨k - 1, by omega⟩
    rw [carillonref01_Put.l0, if_neg (by omega), List.drop_of_length_le (by omega)]
    simp
  | succ d ih =>
    intro k i p hi hk hp
    obtain ⟨k, rfl⟩ : ∃ m, k = m + 1 := ⟨k - 1, by omega⟩
    rw [carillonref01_Put.l0, if_pos (by omega), if_pos (by omega), rd_get l i (by omega), bytes4]
    refine bind_to rfl ?_
    rw [if_pos (by rw [bytesBE_len]; omega), wsucc i (by omega), ih k (i + 1) _ (by omega) (by omega) (by simp [bytesBE_len]; omega), List.drop_eq_getElem_cons (show i < l.length by omega), List.flatMap_cons, List.append_assoc]
theorem rput_is (p l : List Int) (hn : l.length ≤ 100) (k : Nat) (hk : l.length < k) (hp : p.length ≤ 140737488351300) : carillonref01_Put.f k p l = some (p ++ l.flatMap (bytesBE 4)) := by
  unfold carillonref01_Put.f
  refine bind_to rfl ?_
  rw [if_pos (by simp; omega), List.nil_append]
  exact rput_loop l hn l.length k 0 p (by omega) hk (by omega)
theorem bytesBE_add (n m : Nat) (x : Int) : bytesBE (n + m) x = bytesBE n (x / 2 ^ (8 * m)) ++ bytesBE m x := by
  induction n with
  | zero => simp [bytesBE]
  | succ n ih =>
    rw [show n + 1 + m = (n + m) + 1 by omega, bytesBE, bytesBE, ih, List.cons_append]
    congr 2
    have hp : (0 : Int) ≤ 2 ^ (8 * m) := Int.le_of_lt (Int.pow_pos (by decide))
    rw [Int.ediv_ediv_of_nonneg hp, ← Int.pow_add]
    congr 2
    omega
theorem bytesBE_mod (n : Nat) (x : Int) (h : n ≤ 4) : bytesBE n (x % 4294967296) = bytesBE n x := by
  induction n with
  | zero => rfl
  | succ n ih =>
    rw [bytesBE, bytesBE, ih (by omega)]
    congr 1
    match n, h with
    | 0, _ => simp <;> omega
    | 1, _ => simp <;> omega
    | 2, _ => simp <;> omega
    | 3, _ => simp <;> omega
theorem rputlong_is (p : List Int) (x : Int) (k : Nat) (hk : 8 < k) (hp : p.length ≤ 140737488351300) : carillonref01_PutLong.f k p x = some (p ++ bytesBE 8 x) := by
  unfold carillonref01_PutLong.f
  refine bind_to (rput_is p [(x / 4294967296) % 4294967296, x % 4294967296] (by simp) k (by simp; omega) hp) ?_
  have e := bytesBE_add 4 4 x
  rw [show (2 : Int) ^ (8 * 4) = 4294967296 by decide] at e
  simp only [List.flatMap_cons, List.flatMap_nil, List.append_nil]
  rw [bytesBE_mod 4 _ (by omega), bytesBE_mod 4 _ (by omega), ← e]
theorem WordLoads : carillonlaw01_WordLoads.Pure := by
  intro l a x n _ hl hlb ha hx hn
  have bl := IsB.wf hlb
  obtain ⟨x0, x1⟩ := x_wf32 hx
  obtain ⟨y, hy⟩ : ∃ y, y = Go.bits .xor .u32 4294967295 x := ⟨_, rfl⟩
  have hy2 : 0 ≤ y ∧ y < 4294967296 := by
    obtain ⟨b, rfl⟩ := x_as32 x0 x1
    have := x_xor32 (4294967295#32) b
    rw [show ((4294967295#32).toNat : Int) = 4294967295 from rfl] at this
    rw [hy, this]
    have := (4294967295#32 ^^^ b).isLt
    omega
  refine ⟨30, ?_⟩
  unfold carillonlaw01_WordLoads.f
  rw [← hy]
  obtain ⟨p, p1, p2⟩ := Load_same l bl (by omega) a 30 (by omega)
  obtain ⟨q, q1, q2⟩ := Long_same l (by omega) a 30 (by omega)
  have hxy : ∀ z ∈ [x, y], 0 ≤ z ∧ z < 4294967296 := by
    intro z hz
    simp at hz
    rcases hz with rfl | rfl
    · exact ⟨x0, x1⟩
    · exact hy2
  have h1 := put_is l [x, y] hxy (by simp) 30 (by simp) (by omega)
  have h2 := rput_is l [x, y] (by simp) 30 (by simp) (by omega)
  have hlen : (l ++ [x, y].flatMap (bytesBE 4)).length ≤ 140737488351300 := by simp [bytesBE_len]; omega
  refine bind_to p1 (bind_to p2 (bind_to q1 (bind_to q2 (bind_to h1 (bind_to (putlong_is _ n _ (by omega) hlen) (bind_to h2 (bind_to (rputlong_is _ n _ (by omega) hlen) ?_)))))))
  rw [if_pos rfl, if_pos rfl, if_pos rfl, if_pos rfl, if_pos rfl]
  exact bind_to awake_is rfl
end Go.Proofs.Ytedgfhnjmlefnaa.Pure
