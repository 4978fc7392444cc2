/- Proved: carillonlaw26.ViewAll returns true: all that is told of any views, nodes, rounds. Conditions: none. -/
import Derived.Test.YtaoiamifofkklaaPViewAx5
import Derived.Test.YtaoiamifofkklaaX1Pure
import Derived.Test.YtaoiamifofkklaaXShaJ
namespace Go.Proofs.Ytaoiamifofkklaa.Pure
open Go.RowKit Go.Proofs.Ytaoiamifofkklaa.PViewA Go.Proofs.YtaoiamifofkklaaW.PrintWords Go.Proofs.YtaoiamifofkklaaW.PrintLast Go.Proofs.YtaoiamifofkklaaW.PrintMore
set_option linter.unusedVariables false
set_option linter.unusedSimpArgs false
def x_gath64 (l : List Int) : Int := l.foldl (fun x c => Go.bits .or .u64 (IntKind.u64.wrap (x * 256)) (IntKind.u64.wrap c)) 0
theorem own_is (l : List Int) (n : Int) (h0 : 0 ≤ n) (h : (l.length : Int) + n ≤ 281474976710656) : word_own.f l n = some l := by
  unfold word_own.f; rw [if_pos ⟨h0, h⟩]
/-! What spread, Put and PutLong write. -/
def bytesBE : Nat → Int → List Int
  | 0, _ => []
  | n + 1, x => (x / 2 ^ (8 * n)) % 256 :: bytesBE n x
theorem bytesBE_len (n : Nat) (x : Int) : (bytesBE n x).length = n := by induction n with | zero => rfl | succ n ih => simp [bytesBE, ih]
theorem bytesBE_b (n : Nat) (x : Int) : IsB (bytesBE n x) := by
  induction n with
  | zero => exact IsB.nil
  | succ n ih => exact IsB.cons (by omega) (by omega) ih
theorem spread_loop (x : Int) : ∀ (n k : Nat) (p : List Int), n ≤ 8 → n < k → p.length + n ≤ 140737488355328 → word_spread.l0 k p x ((n : Int) - 1) = some (p ++ bytesBE n x) := by
  intro n
  induction n with
  | zero =>
    intro k p h8 hk hp
    obtain ⟨k, rfl⟩ : ∃ m, k = m + 1 := ⟨k - 1, by omega⟩
    simp only [word_spread.l0]
    rw [if_neg (by omega)]
    simp [bytesBE]
  | succ n ih =>
    intro k p h8 hk hp
    obtain ⟨k, rfl⟩ : ∃ m, k = m + 1 := ⟨k - 1, by omega⟩
    simp only [word_spread.l0]
    have e1 : wrap64 (8 * (((n + 1 : Nat) : Int) - 1)) = ((8 * n : Nat) : Int) := by unfold wrap64; omega
    have e2 : wrap64 (((n + 1 : Nat) : Int) - 1 - 1) = (n : Int) - 1 := by unfold wrap64; omega
    have e3 : shr .u64 x ((8 * n : Nat) : Int) = x / 2 ^ (8 * n) := by
      unfold shr; rw [Int.toNat_natCast, show min (8 * n) IntKind.u64.bits = 8 * n from Nat.min_eq_left (by show 8 * n ≤ 64; omega)]
    rw [if_pos (by omega), e1, if_pos (by omega), if_pos (by omega), e2, e3, ih k _ (by omega) (by omega) (by simp; omega)]
    simp [bytesBE]
theorem spread_is (x : Int) (n k : Nat) (p : List Int) (h8 : n ≤ 8) (hk : n < k) (hp : p.length + 16 ≤ 140737488355328) : word_spread.f k p x (n : Int) = some (p ++ bytesBE n x) := by
  unfold word_spread.f
  rw [show wrap64 ((n : Int) - 1) = (n : Int) - 1 by unfold wrap64; omega]
  exact spread_loop x n k p h8 hk (by omega)
theorem putlong_is (p : List Int) (x : Int) (k : Nat) (hk : 8 < k) (hp : p.length ≤ 140737488351300) : word_PutLong.f k p x = some (p ++ bytesBE 8 x) := by
  unfold word_PutLong.f
  rw [own_is _ _ (by omega) (by omega)]
  simp only [Option.bind_some]
  have := spread_is x 8 k p (by omega) hk (by omega)
  rw [show ((8 : Nat) : Int) = 8 from rfl] at this
  rw [this]
  rfl
theorem put_loop (l : List Int) (hl : ∀ x ∈ l, 0 ≤ x ∧ x < 4294967296) (hn : l.length ≤ 100) : ∀ (d k i : Nat) (p : List Int), i + d = l.length → d + 8 < k → p.length + 4 * d ≤ 140737488355000 →
    word_Put.l0 k p l (l.length : Int) (i : Int) = some (p ++ (l.drop i).flatMap (bytesBE 4)) := by
  intro d
  induction d with
  | zero =>
    intro k i p hi hk hp
    obtain ⟨k, rfl⟩ : ∃ m, k = m + 1 := ⟨k - 1, by omega⟩
    simp only [word_Put.l0]
    rw [if_neg (by omega), List.drop_of_length_le (by omega)]
    simp
  | succ d ih =>
    intro k i p hi hk hp
    obtain ⟨k, rfl⟩ : ∃ m, k = m + 1 := ⟨k - 1, by omega⟩
    simp only [word_Put.l0]
    have e3 : wrap64 ((i : Int) + 1) = ((i + 1 : Nat) : Int) := by unfold wrap64; omega
    have hb := hl _ (List.getElem_mem (show i < l.length by omega))
    have e4 : IntKind.u64.wrap (l[i]'(by omega)) = l[i]'(by omega) := by rw [x_wrap_u64']; omega
    have := spread_is (l[i]'(by omega)) 4 k p (by omega) (by omega) (by omega)
    rw [show ((4 : Nat) : Int) = 4 from rfl] at this
    rw [if_pos (by omega), if_pos (by omega), if_pos (by omega), e3, rd_get l i (by omega), e4, this]
    simp only [Option.bind_some]
    rw [ih k (i + 1) _ (by omega) (by omega) (by simp [bytesBE_len]; omega), List.drop_eq_getElem_cons (show i < l.length by omega), List.flatMap_cons, List.append_assoc]
theorem put_is (p l : List Int) (hl : ∀ x ∈ l, 0 ≤ x ∧ x < 4294967296) (hn : l.length ≤ 100) (k : Nat) (hk : l.length + 8 < k) (hp : p.length ≤ 140737488351300) : word_Put.f k p l = some (p ++ l.flatMap (bytesBE 4)) := by
  unfold word_Put.f
  rw [show wrap64 (4 * (l.length : Int)) = 4 * (l.length : Int) by unfold wrap64; omega, own_is _ _ (by omega) (by omega)]
  simp only [Option.bind_some]
  have := put_loop l hl hn l.length k 0 p (by omega) hk (by omega)
  simpa using this
theorem wraps_u32' (n : Int) (h₀ : 0 ≤ n) (h₁ : n < 2 ^ 32) : IntKind.u32.wrap n = n := by rw [IntKind.wrap_u32]; omega
theorem wraps_u64' (n : Int) (h₀ : 0 ≤ n) (h₁ : n < 2 ^ 64) : IntKind.u64.wrap n = n := by rw [x_wrap_u64']; omega
theorem g32 (x c : Int) (h0 : 0 ≤ x) (h1 : x < 16777216) (c0 : 0 ≤ c) (c1 : c < 256) : Go.bits .or .u32 ((x * 256) % 4294967296) (c % 4294967296) = x * 256 + c := by
  rw [show (x * 256) % 4294967296 = x * 256 by omega, show c % 4294967296 = c by omega]
  exact bits_join .u32 32 (by decide) wraps_u32' 8 _ _ (by omega) (by omega) (by omega) c0 (by omega) (by omega)
theorem g64 (x c : Int) (h0 : 0 ≤ x) (h1 : x < 72057594037927936) (c0 : 0 ≤ c) (c1 : c < 256) : Go.bits .or .u64 (IntKind.u64.wrap (x * 256)) (IntKind.u64.wrap c) = x * 256 + c := by
  rw [x_wrap_u64', x_wrap_u64', show (x * 256) % 18446744073709551616 = x * 256 by omega, show c % 18446744073709551616 = c by omega]
  exact bits_join .u64 64 (by decide) wraps_u64' 8 _ _ (by omega) (by omega) (by omega) c0 (by omega) (by omega)
theorem div_step (x : Int) (n : Nat) : x / 2 ^ (8 * (n + 1)) * 256 + x / 2 ^ (8 * n) % 256 = x / 2 ^ (8 * n) := by
  have e : (2 : Int) ^ (8 * (n + 1)) = 2 ^ (8 * n) * 256 := by rw [Nat.mul_add, Int.pow_add]; rfl
  have hp : (0 : Int) < 2 ^ (8 * n) := Int.pow_pos (by decide)
  rw [e, ← Int.ediv_ediv_of_nonneg (Int.le_of_lt hp)]
  omega
theorem div_lt (x : Int) (m n b : Nat) (h1 : x < 2 ^ m) (h : m ≤ b + n) : x / 2 ^ n < 2 ^ b := by
  have hp : (0 : Int) < 2 ^ n := Int.pow_pos (by decide)
  apply Int.ediv_lt_of_lt_mul hp
  rw [← Int.pow_add]
  exact Int.lt_of_lt_of_le h1 (by exact_mod_cast Nat.pow_le_pow_right (by decide) h)
def horner (l : List Int) : Int := l.foldl (fun x c => x * 256 + c) 0
theorem horner_fold (l : List Int) (h : IsB l) : ∀ (n : Nat) (x : Int), n + l.length ≤ 8 → 0 ≤ x → x < 2 ^ (8 * n) → l.foldl (fun x c => Go.bits .or .u64 (IntKind.u64.wrap (x * 256)) (IntKind.u64.wrap c)) x = l.foldl (fun x c => x * 256 + c) x ∧ 0 ≤ l.foldl (fun x c => x * 256 + c) x ∧ l.foldl (fun x c => x * 256 + c) x < 2 ^ (8 * (n + l.length)) := by
  induction l with
  | nil => intro n x _ h0 h1; exact ⟨rfl, h0, h1⟩
  | cons a l ih =>
    intro n x hn h0 h1
    have ha := h a (by simp)
    have hn' : n + l.length ≤ 7 := by simp at hn; omega
    have hx : x < 72057594037927936 := by
      have : (2 : Int) ^ (8 * n) ≤ 2 ^ 56 := by exact_mod_cast Nat.pow_le_pow_right (by decide) (by omega)
      exact Int.lt_of_lt_of_le h1 (by simpa using this)
    have e : (2 : Int) ^ (8 * (n + 1)) = 2 ^ (8 * n) * 256 := by rw [Nat.mul_add, Int.pow_add]; rfl
    have := ih (fun y hy => h y (by simp [hy])) (n + 1) (x * 256 + a) (by omega) (by omega) (by rw [e]; omega)
    rw [List.foldl_cons, List.foldl_cons, g64 x a h0 hx ha.1 ha.2]
    rw [show n + (a :: l).length = n + 1 + l.length by simp; omega]
    exact this
theorem horner_fold32 (l : List Int) (h : IsB l) : ∀ (n : Nat) (x : Int), n + l.length ≤ 4 → 0 ≤ x → x < 2 ^ (8 * n) → l.foldl (fun x c => Go.bits .or .u32 ((x * 256) % 4294967296) (c % 4294967296)) x = l.foldl (fun x c => x * 256 + c) x := by
  induction l with
  | nil => intro n x _ h0 h1; rfl
  | cons a l ih =>
    intro n x hn h0 h1
    have ha := h a (by simp)
    have hn' : n + l.length ≤ 3 := by simp at hn; omega
    have hx : x < 16777216 := by
      have : (2 : Int) ^ (8 * n) ≤ 2 ^ 24 := by exact_mod_cast Nat.pow_le_pow_right (by decide) (by omega)
      exact Int.lt_of_lt_of_le h1 (by simpa using this)
    have e : (2 : Int) ^ (8 * (n + 1)) = 2 ^ (8 * n) * 256 := by rw [Nat.mul_add, Int.pow_add]; rfl
    rw [List.foldl_cons, List.foldl_cons, g32 x a h0 hx ha.1 ha.2]
    exact ih (fun y hy => h y (by simp [hy])) (n + 1) (x * 256 + a) (by omega) (by omega) (by rw [e]; omega)
theorem load_loop (l : List Int) (hl : l.length ≤ 140737488351232) (a n : Nat) (ha : a + n ≤ l.length) : ∀ (d k i : Nat) (x : Int), i + d = n → d < k →
    carillonref01_load.l0 k l (a : Int) (n : Int) x (i : Int) = some (((l.drop (a + i)).take d).foldl (fun x c => Go.bits .or .u64 (IntKind.u64.wrap (x * 256)) (IntKind.u64.wrap c)) x, 0) := by
  intro d
  induction d with
  | zero =>
    intro k i x hi hk
    obtain ⟨k, rfl⟩ : ∃ m, k = m + 1 := ⟨k - 1, by omega⟩
    rw [carillonref01_load.l0, if_neg (by omega)]
    simp
  | succ d ih =>
    intro k i x hi hk
    obtain ⟨k, rfl⟩ : ∃ m, k = m + 1 := ⟨k - 1, by omega⟩
    have e : wrap64 ((a : Int) + (i : Int)) = ((a + i : Nat) : Int) := by unfold wrap64; omega
    rw [carillonref01_load.l0, if_pos (by omega), e, if_pos (by omega), if_pos (by omega), wsucc i (by omega), rd_get l (a + i) (by omega), ih k (i + 1) _ (by omega) (by omega)]
    rw [List.drop_eq_getElem_cons (show a + i < l.length by omega), List.take_succ_cons, List.foldl_cons]
    rfl
theorem rload_is (l : List Int) (hl : l.length ≤ 140737488351232) (a : Int) (n : Nat) (hn : n ≤ 8) (k : Nat) (hk : n + 1 < k) :
    carillonref01_load.f k l a (n : Int) = some (if 0 ≤ a ∧ a + n ≤ l.length then (x_gath64 ((l.drop a.toNat).take n), 0) else (0, 1)) := by
  obtain ⟨k, rfl⟩ : ∃ m, k = m + 1 := ⟨k - 1, by omega⟩
  have hw : wrap64 ((l.length : Int) - (n : Int)) = (l.length : Int) - (n : Int) := by unfold wrap64; omega
  unfold carillonref01_load.f
  rw [hw]
  by_cases h0 : a < 0
  · rw [if_pos h0, if_neg (by omega), carillonref01_load.j0, if_pos rfl]
  · rw [if_neg h0, carillonref01_load.j0]
    by_cases h1 : a > (l.length : Int) - (n : Int)
    · rw [if_pos (by simpa using h1), if_neg (by omega)]
    · rw [if_neg (by simpa using h1), if_pos (by omega)]
      obtain ⟨b, rfl⟩ := Int.eq_ofNat_of_zero_le (show 0 ≤ a by omega)
      have := load_loop l hl b n (by omega) n k 0 0 (by omega) (by omega)
      simpa [x_gath64] using this
theorem Load_same (l : List Int) (hb : IsB l) (hl : l.length ≤ 140737488351232) (a : Int) (k : Nat) (hk : 20 < k) : ∃ p, word_Load.f l a = some p ∧ carillonref01_Load.f k l a = some p := by
  have h4 := rload_is l hl a 4 (by omega) k (by omega)
  rw [show ((4 : Nat) : Int) = 4 from rfl] at h4
  refine ⟨_, by unfold word_Load.f; rw [if_pos (by omega)], ?_⟩
  unfold carillonref01_Load.f
  refine bind_to h4 ?_
  by_cases h : 0 ≤ a ∧ a + 4 ≤ (l.length : Int)
  · rw [if_pos h, if_pos h]
    have hb2 : IsB ((l.drop a.toNat).take 4) := (hb.drop _).take _
    have hlen : ((l.drop a.toNat).take 4).length = 4 := by simp; omega
    have f1 := horner_fold _ hb2 0 0 (by omega) (by omega) (by simp)
    have f2 := horner_fold32 _ hb2 0 0 (by omega) (by omega) (by simp)
    rw [hlen] at f1
    have e : x_gath64 ((l.drop a.toNat).take 4) % 4294967296 = x_gath32 ((l.drop a.toNat).take 4) := by
      unfold x_gath64 x_gath32
      rw [f1.1, f2]
      have := f1.2.2
      simp at this
      omega
    show some (x_gath64 ((l.drop a.toNat).take 4) % 4294967296, (0 : Int)) = some (x_gath32 ((l.drop a.toNat).take 4), (0 : Int))
    rw [e]
  · rw [if_neg h, if_neg h]
    rfl
theorem bytes4 (x : Int) : ([(x / 16777216) % 256, (x / 65536) % 256, (x / 256) % 256, x % 256] : List Int) = bytesBE 4 x := by
  simp [bytesBE]
theorem rput_loop (l : List Int) (hn : l.length ≤ 100) : ∀ (d k i : Nat) (p : List Int), i + d = l.length → d < k → p.length + 4 * d ≤ 140737488355000 →
    carillonref01_Put.l0 k l p (i : Int) = some (p ++ (l.drop i).flatMap (bytesBE 4)) := by
  intro d
  induction d with
  | zero =>
    intro k i p hi hk hp
    obtain ⟨k, rfl⟩ : ∃ m, k = m + 1 := ⟨k - 1, by omega⟩
    rw [carillonref01_Put.l0, if_neg (by omega), List.drop_of_length_le (by omega)]
    simp
  | succ d ih =>
    intro k i p hi hk hp
    obtain ⟨k, rfl⟩ : ∃ m, k = m + 1 := ⟨k - 1, by omega⟩
    rw [carillonref01_Put.l0, if_pos (by omega), if_pos (by omega), rd_get l i (by omega), bytes4]
    refine bind_to rfl ?_
    rw [if_pos (by rw [bytesBE_len]; omega), wsucc i (by omega), ih k (i + 1) _ (by omega) (by omega) (by simp [bytesBE_len]; omega), List.drop_eq_getElem_cons (show i < l.length by omega), List.flatMap_cons, List.append_assoc]
theorem rput_is (p l : List Int) (hn : l.length ≤ 100) (k : Nat) (hk : l.length < k) (hp : p.length ≤ 140737488351300) : carillonref01_Put.f k p l = some (p ++ l.flatMap (bytesBE 4)) := by
  unfold carillonref01_Put.f
  refine bind_to rfl ?_
  rw [if_pos (by simp; omega), List.nil_append]
  exact rput_loop l hn l.length k 0 p (by omega) hk (by omega)
theorem bytesBE_add (n m : Nat) (x : Int) : bytesBE (n + m) x = bytesBE n (x / 2 ^ (8 * m)) ++ bytesBE m x := by
  induction n with
  | zero => simp [bytesBE]
  | succ n ih =>
    rw [show n + 1 + m = (n + m) + 1 by omega, bytesBE, bytesBE, ih, List.cons_append]
    congr 2
    have hp : (0 : Int) ≤ 2 ^ (8 * m) := Int.le_of_lt (Int.pow_pos (by decide))
    rw [Int.ediv_ediv_of_nonneg hp, ← Int.pow_add]
    congr 2
    omega
theorem bytesBE_mod (n : Nat) (x : Int) (h : n ≤ 4) : bytesBE n (x % 4294967296) = bytesBE n x := by
  induction n with
  | zero => rfl
  | succ n ih =>
    rw [bytesBE, bytesBE, ih (by omega)]
    congr 1
    match n, h with
    | 0, _ => simp <;> omega
    | 1, _ => simp <;> omega
    | 2, _ => simp <;> omega
    | 3, _ => simp <;> omega
theorem isView_yes {v : Int} (h : 0 ≤ v ∧ v ≤ 255) : view_isView.f v = some true := by
  unfold view_isView.f; rw [if_pos h.1]; congr 1; exact decide_eq_true h.2
theorem isView_no {v : Int} (h : ¬ (0 ≤ v ∧ v ≤ 255)) : view_isView.f v = some false := by
  unfold view_isView.f
  by_cases h0 : v ≥ 0
  · rw [if_pos h0]; congr 1; exact decide_eq_false (by omega)
  · rw [if_neg h0]
theorem isNode_yes {v : Int} (h : 0 ≤ v ∧ v < 8) : view_isNode.f v = some true := by
  unfold view_isNode.f; rw [if_pos h.1]; congr 1; exact decide_eq_true h.2
theorem isNode_no {v : Int} (h : ¬ (0 ≤ v ∧ v < 8)) : view_isNode.f v = some false := by
  unfold view_isNode.f
  by_cases h0 : v ≥ 0
  · rw [if_pos h0]; congr 1; exact decide_eq_false (by omega)
  · rw [if_neg h0]
theorem right_eq (v : Int) : carillonref26_Right.f v = view_isView.f v := rfl
theorem node_eq (v : Int) : carillonref26_node.f v = view_isNode.f v := rfl
theorem has_eq (v i : Int) : carillonref26_Has.f v i = view_Has.f v i := rfl
theorem has_no {v : Int} (h : ¬ (0 ≤ v ∧ v ≤ 255)) (i : Int) : view_Has.f v i = some false := by
  unfold view_Has.f
  rw [isView_no h]
  rfl
theorem has_node {v i : Int} (h : 0 ≤ v ∧ v ≤ 255) (hi : ¬ (0 ≤ i ∧ i < 8)) : view_Has.f v i = some false := by
  unfold view_Has.f
  rw [isView_yes h, isNode_no hi]
  rfl
theorem of_one_no {i : Int} (k : Nat) (hi : ¬ (0 ≤ i ∧ i < 8)) : view_Of.f (k + 1) [i] = some (0, 1) := by
  unfold view_Of.f
  rw [view_Of.l0, if_pos (by simp), if_pos (by decide), if_pos (by simp)]
  have e : rd [i] 0 = i := rfl
  rw [e, isNode_no hi]
  rfl
set_option maxRecDepth 1000000 in
theorem with_all : ∀ v : Fin 256, ∀ i : Fin 8, ∃ p, view_With.f 20 (v.val : Int) (i.val : Int) = some (p, 0) ∧ carillonref26_With.f (v.val : Int) (i.val : Int) = some (p, 0) ∧ 0 ≤ p ∧ p ≤ 255 := by
  have h : ∀ v : Fin 256, ∀ i : Fin 8, (match view_With.f 20 (v.val : Int) (i.val : Int), carillonref26_With.f (v.val : Int) (i.val : Int) with
    | some (p, e), some (q, f) => decide (p = q ∧ e = 0 ∧ f = 0 ∧ 0 ≤ p ∧ p ≤ 255)
    | _, _ => false) = true := by decide +kernel
  intro v i
  have q := h v i
  split at q
  · rename_i p e q' f h1 h2
    obtain ⟨rfl, rfl, rfl, h3, h4⟩ := of_decide_eq_true q
    exact ⟨p, h1, h2, h3, h4⟩
  · cases q
theorem rwith_node {v i : Int} (hv : 0 ≤ v ∧ v ≤ 255) (hi : 0 ≤ i ∧ i < 8) : ∃ p, carillonref26_With.f v i = some (p, 0) ∧ view_With.f 20 v i = some (p, 0) ∧ 0 ≤ p ∧ p ≤ 255 := by
  obtain ⟨p, h1, h2, h3⟩ := with_all ⟨v.toNat, by omega⟩ ⟨i.toNat, by omega⟩
  simp only [Int.toNat_of_nonneg hv.1, Int.toNat_of_nonneg hi.1] at h1 h2
  exact ⟨p, h2, h1, h3⟩
theorem rwith_no {v i : Int} (hv : 0 ≤ v ∧ v ≤ 255) (hi : ¬ (0 ≤ i ∧ i < 8)) : carillonref26_With.f v i = some (0, 1) := by
  unfold carillonref26_With.f
  rw [right_eq, isView_yes hv, node_eq, isNode_no hi]
  rfl
theorem with_same (v i : Int) (k : Nat) (hk : 20 ≤ k) : ∃ p, view_With.f k v i = some p ∧ carillonref26_With.f v i = some p := by
  by_cases hv : 0 ≤ v ∧ v ≤ 255
  · by_cases hi : 0 ≤ i ∧ i < 8
    · obtain ⟨p, h1, h2, _⟩ := rwith_node hv hi
      exact ⟨_, at_rounds (g := fun k => view_With.f k v i) (fun k => view_With.mono _ _ k) hk h2, h1⟩
    · refine ⟨(0, 1), ?_, rwith_no hv hi⟩
      obtain ⟨j, rfl⟩ : ∃ j, k = j + 1 := ⟨k - 1, by omega⟩
      unfold view_With.f
      rw [isView_yes hv, of_one_no j hi]
      rfl
  · refine ⟨(0, 1), ?_, ?_⟩
    · unfold view_With.f
      rw [isView_no hv]
      rfl
    · unfold carillonref26_With.f
      rw [right_eq, isView_no hv]
      rfl
set_option maxRecDepth 1000000 in
theorem without_all : ∀ v : Fin 256, ∀ i : Fin 8, ∃ p, view_Without.f 20 (v.val : Int) (i.val : Int) = some p ∧ carillonref26_Without.f 20 (v.val : Int) (i.val : Int) = some p := by
  have h : ∀ v : Fin 256, ∀ i : Fin 8, (match view_Without.f 20 (v.val : Int) (i.val : Int), carillonref26_Without.f 20 (v.val : Int) (i.val : Int) with
    | some p, some q => decide (p = q)
    | _, _ => false) = true := by decide +kernel
  intro v i
  have q := h v i
  split at q
  · rename_i p q' h1 h2
    obtain rfl := of_decide_eq_true q
    exact ⟨p, h1, h2⟩
  · cases q
theorem without_same (v i : Int) (k : Nat) (hk : 20 ≤ k) : ∃ p, view_Without.f k v i = some p ∧ carillonref26_Without.f k v i = some p := by
  obtain ⟨j, rfl⟩ : ∃ j, k = j + 1 := ⟨k - 1, by omega⟩
  by_cases hv : 0 ≤ v ∧ v ≤ 255
  · by_cases hi : 0 ≤ i ∧ i < 8
    · obtain ⟨p, h1, h2⟩ := without_all ⟨v.toNat, by omega⟩ ⟨i.toNat, by omega⟩
      simp only [Int.toNat_of_nonneg hv.1, Int.toNat_of_nonneg hi.1] at h1 h2
      exact ⟨_, at_rounds (g := fun k => view_Without.f k v i) (fun k => view_Without.mono _ _ k) hk h1, at_rounds (g := fun k => carillonref26_Without.f k v i) (fun k => carillonref26_Without.mono _ _ k) hk h2⟩
    · refine ⟨(0, 1), ?_, ?_⟩
      · unfold view_Without.f
        rw [isView_yes hv, of_one_no j hi]
        rfl
      · unfold carillonref26_Without.f
        rw [right_eq, isView_yes hv, node_eq, isNode_no hi]
        rfl
  · refine ⟨(0, 1), ?_, ?_⟩
    · unfold view_Without.f
      rw [isView_no hv]
      rfl
    · unfold carillonref26_Without.f
      rw [right_eq, isView_no hv]
      rfl
theorem of_loop (l : List Int) (hl : l.length ≤ 140737488351232) : ∀ (d k i : Nat) (v : Int), i + d = l.length → d < k → 0 ≤ v ∧ v ≤ 255 → ∃ p, view_Of.l0 k v l (l.length : Int) (i : Int) = some p ∧ carillonref26_Of.l0 k l v (i : Int) = some p := by
  intro d
  induction d with
  | zero =>
    intro k i v hi hk hv
    obtain ⟨k, rfl⟩ : ∃ m, k = m + 1 := ⟨k - 1, by omega⟩
    refine ⟨(v, 0), ?_, ?_⟩
    · rw [view_Of.l0, if_neg (by omega)]
    · rw [carillonref26_Of.l0, if_neg (by omega)]
  | succ d ih =>
    intro k i v hi hk hv
    obtain ⟨k, rfl⟩ : ∃ m, k = m + 1 := ⟨k - 1, by omega⟩
    obtain ⟨y, hy⟩ : ∃ y, rd l (i : Int) = y := ⟨_, rfl⟩
    by_cases hn : 0 ≤ y ∧ y < 8
    · obtain ⟨p, h1, _, h3⟩ := rwith_node hv hn
      have e : p = Go.bits .or .i64 v (shl .i64 1 y) := by
        unfold carillonref26_With.f at h1
        rw [right_eq, isView_yes hv, node_eq, isNode_yes hn] at h1
        have h1' : (if 0 ≤ y then some (Go.bits .or .i64 v (shl .i64 1 y), (0 : Int)) else none) = some (p, 0) := h1
        rw [if_pos hn.1] at h1'
        injection h1' with h1'
        injection h1' with h1'
        exact h1'.symm
      obtain ⟨q, g1, g2⟩ := ih k (i + 1) p (by omega) (by omega) h3
      refine ⟨q, ?_, ?_⟩
      · rw [view_Of.l0, if_pos (by omega), if_pos (by omega), if_pos (by omega), hy, isNode_yes hn]
        show (if 0 ≤ y then view_Of.l0 k (Go.bits .or .i64 v (shl .i64 1 y)) l (l.length : Int) (wrap64 ((i : Int) + 1)) else none) = _
        rw [if_pos hn.1, ← e, wsucc i (by omega)]
        exact g1
      · rw [carillonref26_Of.l0, if_pos (by omega), if_pos (by omega), hy, h1]
        show carillonref26_Of.l0 k l p (wrap64 ((i : Int) + 1)) = _
        rw [wsucc i (by omega)]
        exact g2
    · refine ⟨(0, 1), ?_, ?_⟩
      · rw [view_Of.l0, if_pos (by omega), if_pos (by omega), if_pos (by omega), hy, isNode_no hn]
        rfl
      · rw [carillonref26_Of.l0, if_pos (by omega), if_pos (by omega), hy, rwith_no hv hn]
        rfl
theorem list_out {v : Int} (h : ¬ (0 ≤ v ∧ v ≤ 255)) : ∀ (k : Nat) (acc : List Int) (x : Int), view_List.l0 k v acc x = view_List.l0 k (-1) acc x
  | 0, _, _ => rfl
  | k + 1, acc, x => by
    rw [view_List.l0, view_List.l0, has_no h x, has_no (show ¬ (0 ≤ (-1 : Int) ∧ (-1 : Int) ≤ 255) by decide) x]
    show (if x < 8 then view_List.l0 k v acc (wrap64 (x + 1)) else some acc) = if x < 8 then view_List.l0 k (-1) acc (wrap64 (x + 1)) else some acc
    rw [list_out h k]
theorem list_eq (v : Int) : ∀ (k : Nat) (acc : List Int) (x : Int), carillonref26_List.l0 k v acc x = view_List.l0 k v acc x
  | 0, _, _ => rfl
  | k + 1, acc, x => by
    rw [view_List.l0, carillonref26_List.l0, has_eq]
    congr 1
    congr 1
    funext t
    rw [list_eq v k, list_eq v k]
set_option maxRecDepth 1000000 in
theorem list_all : ∀ v : Fin 256, (match view_List.f 40 (v.val : Int) with
    | some a => decide (carillonlaw26_numbers.f 40 a a = some true ∧ view_Count.f (v.val : Int) = some (a.length : Int))
    | none => false) = true := by decide +kernel
theorem list_bad : view_List.f 40 (-1) = some [] := by decide +kernel
theorem list_is (v : Int) : ∃ a, view_List.f 40 v = some a ∧ carillonlaw26_numbers.f 40 a a = some true ∧ view_Count.f v = some (a.length : Int) := by
  by_cases hv : 0 ≤ v ∧ v ≤ 255
  · have q := list_all ⟨v.toNat, by omega⟩
    simp only [Int.toNat_of_nonneg hv.1] at q
    split at q
    · rename_i a h1
      obtain ⟨h2, h3⟩ := of_decide_eq_true q
      exact ⟨a, h1, h2, h3⟩
    · cases q
  · refine ⟨[], ?_, by decide, ?_⟩
    · unfold view_List.f
      rw [list_out hv]
      exact list_bad
    · unfold view_Count.f
      rw [isView_no hv]
      rfl
theorem bv_sub (a b : BitVec 64) : a &&& ~~~b = 0#64 ↔ a ||| b = b := by
  constructor
  · intro h
    apply BitVec.eq_of_getLsbD_eq
    intro i hi
    have q := congrArg (fun x => x.getLsbD i) h
    simp [hi] at q ⊢
    exact q
  · intro h
    apply BitVec.eq_of_getLsbD_eq
    intro i hi
    have q := congrArg (fun x => x.getLsbD i) h
    simp [hi] at q ⊢
    exact q
theorem wrap_i64v (n : Int) : IntKind.i64.wrap n = (n + 9223372036854775808) % 18446744073709551616 - 9223372036854775808 := by
  simp [IntKind.wrap, IntKind.signed, IntKind.bits]
  split <;> omega
theorem within_is (v w : Int) (hw : 0 ≤ w ∧ w ≤ 255) : ((Go.bits .andNot .i64 v w) == 0) = ((Go.bits .or .i64 v w) == w) := by
  obtain ⟨a, ha⟩ : ∃ a : BitVec 64, BitVec.ofInt 64 v = a := ⟨_, rfl⟩
  obtain ⟨b, hb⟩ : ∃ b : BitVec 64, BitVec.ofInt 64 w = b := ⟨_, rfl⟩
  have e1 : Go.bits .andNot .i64 v w = IntKind.i64.wrap ((a &&& ~~~b).toNat : Int) := by rw [← ha, ← hb]; rfl
  have e2 : Go.bits .or .i64 v w = IntKind.i64.wrap ((a ||| b).toNat : Int) := by rw [← ha, ← hb]; rfl
  have hbn : (b.toNat : Int) = w := by
    rw [← hb, BitVec.toNat_ofInt]
    omega
  have h1 := (a &&& ~~~b).isLt
  have h2 := (a ||| b).isLt
  rw [Bool.eq_iff_iff, beq_iff_eq, beq_iff_eq, e1, e2, wrap_i64v, wrap_i64v]
  constructor
  · intro h
    have h3 : (a &&& ~~~b).toNat = 0 := by omega
    have h4 := (bv_sub a b).1 (BitVec.eq_of_toNat_eq (by rw [h3]; rfl))
    rw [h4, hbn]
    omega
  · intro h
    have h3 : (a ||| b).toNat = b.toNat := by omega
    have h4 := (bv_sub a b).2 (BitVec.eq_of_toNat_eq h3)
    have h5 : (0#64).toNat = 0 := by decide
    rw [h4, h5]
    decide
theorem within_same (v w : Int) : ∃ b, view_Within.f v w = some b ∧ carillonref26_Within.f v w = some b := by
  by_cases hv : 0 ≤ v ∧ v ≤ 255
  · by_cases hw : 0 ≤ w ∧ w ≤ 255
    · have q := within_is v w hw
      refine ⟨((Go.bits .andNot .i64 v w) == 0), ?_, ?_⟩
      · unfold view_Within.f
        rw [isView_yes hv, isView_yes hw]
        rfl
      · unfold carillonref26_Within.f
        rw [right_eq, right_eq, isView_yes hv, isView_yes hw, q]
        rfl
    · refine ⟨false, ?_, ?_⟩
      · unfold view_Within.f
        rw [isView_yes hv, isView_no hw]
        rfl
      · unfold carillonref26_Within.f
        rw [right_eq, right_eq, isView_yes hv, isView_no hw]
        rfl
  · refine ⟨false, ?_, ?_⟩
    · unfold view_Within.f
      rw [isView_no hv]
      rfl
    · unfold carillonref26_Within.f
      rw [right_eq, isView_no hv]
      rfl
theorem dig_b (l : List Int) : IsB (Go.Proofs.Ytaoiamifofkklaa.Obj.digP l) := by
  intro x hx
  unfold Go.Proofs.Ytaoiamifofkklaa.Obj.digP Go.Proofs.Ytaoiamifofkklaa.Obj.w8B at hx
  obtain ⟨y, _, hy⟩ := List.mem_flatMap.1 hx
  exact Go.Proofs.Ytaoiamifofkklaa.Obj.bytesBE_b 4 y x hy
theorem dig_len (l : List Int) : (Go.Proofs.Ytaoiamifofkklaa.Obj.digP l).length = 32 := by
  unfold Go.Proofs.Ytaoiamifofkklaa.Obj.digP Go.Proofs.Ytaoiamifofkklaa.Obj.w8B Go.Proofs.Ytaoiamifofkklaa.Obj.w8I
  simp [Go.Proofs.Ytaoiamifofkklaa.Obj.bytesBE_len]
theorem digest_same (v r : Int) (k : Nat) (hk : 40 ≤ k) : ∃ p, view_Digest.f k v r = some p ∧ carillonref26_Digest.f k v r = some p := by
  obtain ⟨j, rfl⟩ : ∃ j, k = j + 1 := ⟨k - 1, by omega⟩
  have bad1 : view_Digest.j0 (j + 1) v r true = some (0, 1) := by rw [view_Digest.j0, if_pos rfl]
  have bad2 : carillonref26_Digest.j0 (j + 1) v r true = some (0, 1) := by rw [carillonref26_Digest.j0, if_pos rfl]
  by_cases hv : 0 ≤ v ∧ v ≤ 255
  · by_cases h0 : r < 0
    · refine ⟨(0, 1), ?_, ?_⟩
      · unfold view_Digest.f
        rw [isView_yes hv]
        show (if r < 0 then view_Digest.j0 (j + 1) v r true else view_Digest.j0 (j + 1) v r (decide (r ≥ 1048576))) = _
        rw [if_pos h0, bad1]
      · unfold carillonref26_Digest.f
        rw [right_eq, isView_yes hv]
        show (if r < 0 then carillonref26_Digest.j0 (j + 1) v r true else carillonref26_Digest.j0 (j + 1) v r (decide (r ≥ 1048576))) = _
        rw [if_pos h0, bad2]
    · by_cases h1 : r ≥ 1048576
      · refine ⟨(0, 1), ?_, ?_⟩
        · unfold view_Digest.f
          rw [isView_yes hv]
          show (if r < 0 then view_Digest.j0 (j + 1) v r true else view_Digest.j0 (j + 1) v r (decide (r ≥ 1048576))) = _
          rw [if_neg h0, decide_eq_true h1, bad1]
        · unfold carillonref26_Digest.f
          rw [right_eq, isView_yes hv]
          show (if r < 0 then carillonref26_Digest.j0 (j + 1) v r true else carillonref26_Digest.j0 (j + 1) v r (decide (r ≥ 1048576))) = _
          rw [if_neg h0, decide_eq_true h1, bad2]
      · obtain ⟨L, hL⟩ : ∃ L, [v % 256] ++ [r % 4294967296].flatMap (bytesBE 4) = L := ⟨_, rfl⟩
        have hp := put_is [v % 256] [r % 4294967296] (by intro x hx; obtain rfl : x = r % 4294967296 := (by simpa using hx); exact ⟨by omega, by omega⟩) (by simp) j (by simp; omega) (by simp)
        have hq := rput_is [v % 256] [r % 4294967296] (by simp) j (by simp; omega) (by simp)
        rw [hL] at hp hq
        have hLb : ∀ x ∈ L, 0 ≤ x ∧ x < 256 := by
          rw [← hL]
          intro x hx
          rcases List.mem_append.1 hx with hx | hx
          · obtain rfl : x = v % 256 := by simpa using hx
            omega
          · obtain ⟨y, _, hy⟩ := List.mem_flatMap.1 hx
            exact bytesBE_b 4 y x hy
        have hLl : L.length ≤ 1048576 := by rw [← hL]; simp [bytesBE_len]
        obtain ⟨p, g1, g2⟩ := Load_same (Go.Proofs.Ytaoiamifofkklaa.Obj.digP L) (dig_b L) (by rw [dig_len]; omega) 0 j (by omega)
        have g3 : p.2 = 0 := by
          have g := g1
          unfold word_Load.f at g
          rw [dig_len, if_pos (by decide), if_pos (by decide)] at g
          injection g with g
          rw [← g]
        refine ⟨(p.1, 0), ?_, ?_⟩
        · unfold view_Digest.f
          rw [isView_yes hv]
          show (if r < 0 then view_Digest.j0 (j + 1) v r true else view_Digest.j0 (j + 1) v r (decide (r ≥ 1048576))) = _
          rw [if_neg h0, decide_eq_false h1, view_Digest.j0, if_neg (by decide)]
          refine bind_to hp ?_
          refine bind_to (show sha_Of.f L = some (Go.Proofs.Ytaoiamifofkklaa.Obj.digP L, 0) by unfold sha_Of.f; rw [if_pos ⟨hLb, hLl⟩]) ?_
          refine bind_to g1 ?_
          rw [g3]
        · unfold carillonref26_Digest.f
          rw [right_eq, isView_yes hv]
          show (if r < 0 then carillonref26_Digest.j0 (j + 1) v r true else carillonref26_Digest.j0 (j + 1) v r (decide (r ≥ 1048576))) = _
          rw [if_neg h0, decide_eq_false h1, carillonref26_Digest.j0, if_neg (by decide)]
          refine bind_to hq ?_
          refine bind_to (show carillonref02_Of.f L = some (Go.Proofs.Ytaoiamifofkklaa.Obj.digP L, 0) by unfold carillonref02_Of.f; rw [if_pos ⟨hLb, hLl⟩, Go.Proofs.Ytaoiamifofkklaa.Obj.dig_same]) ?_
          refine bind_to g2 ?_
          rfl
  · refine ⟨(0, 1), ?_, ?_⟩
    · unfold view_Digest.f
      rw [isView_no hv]
      exact bad1
    · unfold carillonref26_Digest.f
      rw [right_eq, isView_no hv]
      exact bad2
theorem awake_is : carillonlaw26_awake.f = some true := by decide +kernel
theorem j0_is (v w i : Int) (k : Nat) (hk : 41 ≤ k) : carillonlaw26_ViewAll.j0 k v w i false = some true := by
  obtain ⟨j, rfl⟩ : ∃ j, k = j + 1 := ⟨k - 1, by omega⟩
  obtain ⟨a, h1, h2, h3⟩ := list_is v
  have h1' := at_rounds (g := fun k => view_List.f k v) (fun k => view_List.mono _ k) (show 40 ≤ j by omega) h1
  have h1'' : carillonref26_List.f j v = some a := by
    unfold carillonref26_List.f
    rw [list_eq]
    exact h1'
  have h2' := at_rounds (g := fun k => carillonlaw26_numbers.f k a a) (fun k => carillonlaw26_numbers.mono _ _ k) (show 40 ≤ j by omega) h2
  obtain ⟨b, h4, h5⟩ := within_same v w
  have hh : ∃ c, view_Has.f v i = some c := by
    by_cases hv : 0 ≤ v ∧ v ≤ 255
    · by_cases hi : 0 ≤ i ∧ i < 8
      · unfold view_Has.f
        rw [isView_yes hv, isNode_yes hi]
        refine ⟨(Go.bits .and .i64 (shr .i64 v i) 1) == 1, ?_⟩
        show (if 0 ≤ i then some ((Go.bits .and .i64 (shr .i64 v i) 1) == 1) else none) = _
        rw [if_pos hi.1]
      · exact ⟨_, has_node hv hi⟩
    · exact ⟨_, has_no hv i⟩
  obtain ⟨c, hc⟩ := hh
  rw [carillonlaw26_ViewAll.j0, if_neg (by decide)]
  refine bind_to hc ?_
  refine bind_to (show carillonref26_Has.f v i = some c by rw [has_eq]; exact hc) ?_
  rw [if_pos (by simp)]
  refine bind_to h1' ?_
  refine bind_to h1'' ?_
  refine bind_to h2' ?_
  rw [if_pos rfl]
  refine bind_to h3 ?_
  refine bind_to (show carillonref26_Count.f j v = some (a.length : Int) by unfold carillonref26_Count.f; exact bind_to h1'' rfl) ?_
  rw [if_pos rfl]
  refine bind_to h4 ?_
  refine bind_to h5 ?_
  rw [if_pos (by simp)]
  exact bind_to awake_is rfl
theorem ViewAll : carillonlaw26_ViewAll.Pure := by
  intro l v w i r hl hl8 hw0 hw1 hw2 hw3 hw4
  refine ⟨l.length + 60, ?_⟩
  obtain ⟨p1, a1, b1⟩ := of_loop l (by omega) l.length (l.length + 60) 0 0 (by omega) (by omega) (by decide)
  obtain ⟨p2, a2, b2⟩ := with_same v i (l.length + 60) (by omega)
  obtain ⟨p3, a3, b3⟩ := without_same v i (l.length + 60) (by omega)
  obtain ⟨p4, a4, b4⟩ := digest_same v r (l.length + 60) (by omega)
  unfold carillonlaw26_ViewAll.f
  refine bind_to (show view_Of.f (l.length + 60) l = some p1 from a1) ?_
  refine bind_to (show carillonref26_Of.f (l.length + 60) l = some p1 from b1) ?_
  refine bind_to a2 ?_
  refine bind_to b2 ?_
  refine bind_to a3 ?_
  refine bind_to b3 ?_
  refine bind_to a4 ?_
  refine bind_to b4 ?_
  rw [if_pos rfl, if_pos rfl, if_pos rfl, if_pos rfl, if_pos rfl, if_pos rfl, if_pos rfl, bne_self_eq_false]
  exact j0_is v w i _ (by omega)
end Go.Proofs.Ytaoiamifofkklaa.Pure
