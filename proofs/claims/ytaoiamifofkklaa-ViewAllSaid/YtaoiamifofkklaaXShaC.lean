/- Contracts of Go functions that the claims of this seat share. -/
import Derived.Test.YtaoiamifofkklaaProg
import Derived.Below
import Derived.Deep.Draws
import Derived.Deep.AppendLies
import Derived.Maps.AppendAt
import Derived.OwnWalk
import Derived.Laws.BytesArg
import Derived.Laws.MakeOwn
import Derived.Laws.OwnMore
import Derived.Deep.OwnRows
import Derived.Tactics
import Derived.Lib.ConvBytes
import Derived.Laws.Slices
import Derived.WalkKit
import Derived.KernelRfl
import Derived.RowKit3
import Derived.Deep.LoopGhost
import Derived.Deep.QuietTactic
import Derived.BigQuiet
import Derived.WideLaws
import Derived.Deep.DeepCutAuto
import Derived.Deep.CutBlock
import Derived.Deep.RegionHeld3
import Derived.Laws.Rows
import Derived.Lib.AppendStr
import Derived.ArgAppend
import Derived.Laws.IdiomCopy
import Derived.OrdersHeld
import Derived.Laws.BitsLemmas
import Derived.RowKit
import Derived.Lib.OthersKept
import Derived.Test.YtaoiamifofkklaaWWords
import Derived.Test.YtaoiamifofkklaaWLast
import Derived.Test.YtaoiamifofkklaaWTab
import Derived.Test.YtaoiamifofkklaaWFour
import Derived.Test.YtaoiamifofkklaaWQPut
import Derived.Test.YtaoiamifofkklaaWApart
import Derived.Test.YtaoiamifofkklaaWArr
import Derived.Test.YtaoiamifofkklaaWZeros
import Derived.Test.YtaoiamifofkklaaWFoot
import Derived.Test.YtaoiamifofkklaaWKept
import Derived.Test.YtaoiamifofkklaaWShare
import Derived.Test.YtaoiamifofkklaaWN
import Derived.Test.YtaoiamifofkklaaWFootNe
import Derived.Test.YtaoiamifofkklaaWAt
import Derived.Test.YtaoiamifofkklaaWEqStruct
import Derived.Test.YtaoiamifofkklaaWRepsOne
import Derived.Test.YtaoiamifofkklaaWInv
import Derived.Test.YtaoiamifofkklaaWInvWords
import Derived.Test.YtaoiamifofkklaaWGuard
import Derived.Test.YtaoiamifofkklaaWNEv
import Derived.Test.YtaoiamifofkklaaWMore
import Derived.Test.YtaoiamifofkklaaX0Mem
import Derived.Test.YtaoiamifofkklaaX1Pure
import Derived.Test.YtaoiamifofkklaaXShaB
import Derived.Test.YtaoiamifofkklaaXShaA
import Derived.Test.YtaoiamifofkklaaPShaHx1
import Derived.Test.YtaoiamifofkklaaPShaHx2
import Derived.Test.YtaoiamifofkklaaPShaHx1
namespace Go.Proofs.Ytaoiamifofkklaa.Obj
open Go.RowKit Go.Proofs.YtaoiamifofkklaaW.PrintWords Go.Proofs.YtaoiamifofkklaaW.PrintLast Go.Proofs.YtaoiamifofkklaaW.PrintMore
set_option linter.unusedVariables false
set_option linter.unusedSimpArgs false
open Go.Proofs.Ytaoiamifofkklaa.PShaH
def x_gath64 (l : List Int) : Int := l.foldl (fun x c => Go.bits .or .u64 (IntKind.u64.wrap (x * 256)) (IntKind.u64.wrap c)) 0
theorem own_is (l : List Int) (n : Int) (h0 : 0 ≤ n) (h : (l.length : Int) + n ≤ 281474976710656) : word_own.f l n = some l := by
  unfold word_own.f; rw [if_pos ⟨h0, h⟩]
/-! What spread, Put and PutLong write. -/
def bytesBE : Nat → Int → List Int
  | 0, _ => []
  | n + 1, x => (x / 2 ^ (8 * n)) % 256 :: bytesBE n x
theorem bytesBE_len (n : Nat) (x : Int) : (bytesBE n x).length = n := by induction n with | zero => rfl | succ n ih => simp [bytesBE, ih]
theorem bytesBE_b (n : Nat) (x : Int) : IsB (bytesBE n x) := by
  induction n with
  | zero => exact IsB.nil
  | succ n ih => exact IsB.cons (by omega) (by omega) ih
theorem spread_loop (x : Int) : ∀ (n k : Nat) (p : List Int), n ≤ 8 → n < k → p.length + n ≤ 140737488355328 → word_spread.l0 k p x ((n : Int) - 1) = some (p ++ bytesBE n x) := by
  intro n
  induction n with
  | zero =>
    intro k p h8 hk hp
    obtain ⟨k, rfl⟩ : ∃ m, k = m + 1 := ⟨k - 1, by omega⟩
    simp only [word_spread.l0]
    rw [if_neg (by omega)]
    simp [bytesBE]
  | succ n ih =>
    intro k p h8 hk hp
    obtain ⟨k, rfl⟩ : ∃ m, k = m + 1 := ⟨k - 1, by omega⟩
    simp only [word_spread.l0]
    have e1 : wrap64 (8 * (((n + 1 : Nat) : Int) - 1)) = ((8 * n : Nat) : Int) := by unfold wrap64; omega
    have e2 : wrap64 (((n + 1 : Nat) : Int) - 1 - 1) = (n : Int) - 1 := by unfold wrap64; omega
    have e3 : shr .u64 x ((8 * n : Nat) : Int) = x / 2 ^ (8 * n) := by
      unfold shr; rw [Int.toNat_natCast, show min (8 * n) IntKind.u64.bits = 8 * n from Nat.min_eq_left (by show 8 * n ≤ 64; omega)]
    rw [if_pos (by omega), e1, if_pos (by omega), if_pos (by omega), e2, e3, ih k _ (by omega) (by omega) (by simp; omega)]
    simp [bytesBE]
theorem spread_is (x : Int) (n k : Nat) (p : List Int) (h8 : n ≤ 8) (hk : n < k) (hp : p.length + 16 ≤ 140737488355328) : word_spread.f k p x (n : Int) = some (p ++ bytesBE n x) := by
  unfold word_spread.f
  rw [show wrap64 ((n : Int) - 1) = (n : Int) - 1 by unfold wrap64; omega]
  exact spread_loop x n k p h8 hk (by omega)
theorem putlong_is (p : List Int) (x : Int) (k : Nat) (hk : 8 < k) (hp : p.length ≤ 140737488351300) : word_PutLong.f k p x = some (p ++ bytesBE 8 x) := by
  unfold word_PutLong.f
  rw [own_is _ _ (by omega) (by omega)]
  simp only [Option.bind_some]
  have := spread_is x 8 k p (by omega) hk (by omega)
  rw [show ((8 : Nat) : Int) = 8 from rfl] at this
  rw [this]
  rfl
theorem put_loop (l : List Int) (hl : ∀ x ∈ l, 0 ≤ x ∧ x < 4294967296) (hn : l.length ≤ 100) : ∀ (d k i : Nat) (p : List Int), i + d = l.length → d + 8 < k → p.length + 4 * d ≤ 140737488355000 →
    word_Put.l0 k p l (l.length : Int) (i : Int) = some (p ++ (l.drop i).flatMap (bytesBE 4)) := by
  intro d
  induction d with
  | zero =>
    intro k i p hi hk hp
    obtain ⟨k, rfl⟩ : ∃ m, k = m + 1 := ⟨k - 1, by omega⟩
    simp only [word_Put.l0]
    rw [if_neg (by omega), List.drop_of_length_le (by omega)]
    simp
  | succ d ih =>
    intro k i p hi hk hp
    obtain ⟨k, rfl⟩ : ∃ m, k = m + 1 := ⟨k - 1, by omega⟩
    simp only [word_Put.l0]
    have e3 : wrap64 ((i : Int) + 1) = ((i + 1 : Nat) : Int) := by unfold wrap64; omega
    have hb := hl _ (List.getElem_mem (show i < l.length by omega))
    have e4 : IntKind.u64.wrap (l[i]'(by omega)) = l[i]'(by omega) := by rw [x_wrap_u64']; omega
    have := spread_is (l[i]'(by omega)) 4 k p (by omega) (by omega) (by omega)
    rw [show ((4 : Nat) : Int) = 4 from rfl] at this
    rw [if_pos (by omega), if_pos (by omega), if_pos (by omega), e3, rd_get l i (by omega), e4, this]
    simp only [Option.bind_some]
    rw [ih k (i + 1) _ (by omega) (by omega) (by simp [bytesBE_len]; omega), List.drop_eq_getElem_cons (show i < l.length by omega), List.flatMap_cons, List.append_assoc]
theorem put_is (p l : List Int) (hl : ∀ x ∈ l, 0 ≤ x ∧ x < 4294967296) (hn : l.length ≤ 100) (k : Nat) (hk : l.length + 8 < k) (hp : p.length ≤ 140737488351300) : word_Put.f k p l = some (p ++ l.flatMap (bytesBE 4)) := by
  unfold word_Put.f
  rw [show wrap64 (4 * (l.length : Int)) = 4 * (l.length : Int) by unfold wrap64; omega, own_is _ _ (by omega) (by omega)]
  simp only [Option.bind_some]
  have := put_loop l hl hn l.length k 0 p (by omega) hk (by omega)
  simpa using this
theorem wraps_u32' (n : Int) (h₀ : 0 ≤ n) (h₁ : n < 2 ^ 32) : IntKind.u32.wrap n = n := by rw [IntKind.wrap_u32]; omega
theorem wraps_u64' (n : Int) (h₀ : 0 ≤ n) (h₁ : n < 2 ^ 64) : IntKind.u64.wrap n = n := by rw [x_wrap_u64']; omega
theorem g32 (x c : Int) (h0 : 0 ≤ x) (h1 : x < 16777216) (c0 : 0 ≤ c) (c1 : c < 256) : Go.bits .or .u32 ((x * 256) % 4294967296) (c % 4294967296) = x * 256 + c := by
  rw [show (x * 256) % 4294967296 = x * 256 by omega, show c % 4294967296 = c by omega]
  exact bits_join .u32 32 (by decide) wraps_u32' 8 _ _ (by omega) (by omega) (by omega) c0 (by omega) (by omega)
theorem g64 (x c : Int) (h0 : 0 ≤ x) (h1 : x < 72057594037927936) (c0 : 0 ≤ c) (c1 : c < 256) : Go.bits .or .u64 (IntKind.u64.wrap (x * 256)) (IntKind.u64.wrap c) = x * 256 + c := by
  rw [x_wrap_u64', x_wrap_u64', show (x * 256) % 18446744073709551616 = x * 256 by omega, show c % 18446744073709551616 = c by omega]
  exact bits_join .u64 64 (by decide) wraps_u64' 8 _ _ (by omega) (by omega) (by omega) c0 (by omega) (by omega)
theorem div_step (x : Int) (n : Nat) : x / 2 ^ (8 * (n + 1)) * 256 + x / 2 ^ (8 * n) % 256 = x / 2 ^ (8 * n) := by
  have e : (2 : Int) ^ (8 * (n + 1)) = 2 ^ (8 * n) * 256 := by rw [Nat.mul_add, Int.pow_add]; rfl
  have hp : (0 : Int) < 2 ^ (8 * n) := Int.pow_pos (by decide)
  rw [e, ← Int.ediv_ediv_of_nonneg (Int.le_of_lt hp)]
  omega
theorem div_lt (x : Int) (m n b : Nat) (h1 : x < 2 ^ m) (h : m ≤ b + n) : x / 2 ^ n < 2 ^ b := by
  have hp : (0 : Int) < 2 ^ n := Int.pow_pos (by decide)
  apply Int.ediv_lt_of_lt_mul hp
  rw [← Int.pow_add]
  exact Int.lt_of_lt_of_le h1 (by exact_mod_cast Nat.pow_le_pow_right (by decide) h)
def horner (l : List Int) : Int := l.foldl (fun x c => x * 256 + c) 0
theorem horner_fold (l : List Int) (h : IsB l) : ∀ (n : Nat) (x : Int), n + l.length ≤ 8 → 0 ≤ x → x < 2 ^ (8 * n) → l.foldl (fun x c => Go.bits .or .u64 (IntKind.u64.wrap (x * 256)) (IntKind.u64.wrap c)) x = l.foldl (fun x c => x * 256 + c) x ∧ 0 ≤ l.foldl (fun x c => x * 256 + c) x ∧ l.foldl (fun x c => x * 256 + c) x < 2 ^ (8 * (n + l.length)) := by
  induction l with
  | nil => intro n x _ h0 h1; exact ⟨rfl, h0, h1⟩
  | cons a l ih =>
    intro n x hn h0 h1
    have ha := h a (by simp)
    have hn' : n + l.length ≤ 7 := by simp at hn; omega
    have hx : x < 72057594037927936 := by
      have : (2 : Int) ^ (8 * n) ≤ 2 ^ 56 := by exact_mod_cast Nat.pow_le_pow_right (by decide) (by omega)
      exact Int.lt_of_lt_of_le h1 (by simpa using this)
    have e : (2 : Int) ^ (8 * (n + 1)) = 2 ^ (8 * n) * 256 := by rw [Nat.mul_add, Int.pow_add]; rfl
    have := ih (fun y hy => h y (by simp [hy])) (n + 1) (x * 256 + a) (by omega) (by omega) (by rw [e]; omega)
    rw [List.foldl_cons, List.foldl_cons, g64 x a h0 hx ha.1 ha.2]
    rw [show n + (a :: l).length = n + 1 + l.length by simp; omega]
    exact this
theorem load_loop (l : List Int) (hl : l.length ≤ 140737488351232) (a n : Nat) (ha : a + n ≤ l.length) : ∀ (d k i : Nat) (x : Int), i + d = n → d < k →
    carillonref01_load.l0 k l (a : Int) (n : Int) x (i : Int) = some (((l.drop (a + i)).take d).foldl (fun x c => Go.bits .or .u64 (IntKind.u64.wrap (x * 256)) (IntKind.u64.wrap c)) x, 0) := by
  intro d
  induction d with
  | zero =>
    intro k i x hi hk
    obtain ⟨k, rfl⟩ : ∃ m, k = m + 1 := ⟨k - 1, by omega⟩
    rw [carillonref01_load.l0, if_neg (by omega)]
    simp
  | succ d ih =>
    intro k i x hi hk
    obtain ⟨k, rfl⟩ : ∃ m, k = m + 1 := ⟨k - 1, by omega⟩
    have e : wrap64 ((a : Int) + (i : Int)) = ((a + i : Nat) : Int) := by unfold wrap64; omega
    rw [carillonref01_load.l0, if_pos (by omega), e, if_pos (by omega), if_pos (by omega), wsucc i (by omega), rd_get l (a + i) (by omega), ih k (i + 1) _ (by omega) (by omega)]
    rw [List.drop_eq_getElem_cons (show a + i < l.length by omega), List.take_succ_cons, List.foldl_cons]
    rfl
theorem rload_is (l : List Int) (hl : l.length ≤ 140737488351232) (a : Int) (n : Nat) (hn : n ≤ 8) (k : Nat) (hk : n + 1 < k) :
    carillonref01_load.f k l a (n : Int) = some (if 0 ≤ a ∧ a + n ≤ l.length then (x_gath64 ((l.drop a.toNat).take n), 0) else (0, 1)) := by
  obtain ⟨k, rfl⟩ : ∃ m, k = m + 1 := ⟨k - 1, by omega⟩
  have hw : wrap64 ((l.length : Int) - (n : Int)) = (l.length : Int) - (n : Int) := by unfold wrap64; omega
  unfold carillonref01_load.f
  rw [hw]
  by_cases h0 : a < 0
  · rw [if_pos h0, if_neg (by omega), carillonref01_load.j0, if_pos rfl]
  · rw [if_neg h0, carillonref01_load.j0]
    by_cases h1 : a > (l.length : Int) - (n : Int)
    · rw [if_pos (by simpa using h1), if_neg (by omega)]
    · rw [if_neg (by simpa using h1), if_pos (by omega)]
      obtain ⟨b, rfl⟩ := Int.eq_ofNat_of_zero_le (show 0 ≤ a by omega)
      have := load_loop l hl b n (by omega) n k 0 0 (by omega) (by omega)
      simpa [x_gath64] using this
theorem bytes4 (x : Int) : ([(x / 16777216) % 256, (x / 65536) % 256, (x / 256) % 256, x % 256] : List Int) = bytesBE 4 x := by
  simp [bytesBE]
theorem rput_loop (l : List Int) (hn : l.length ≤ 100) : ∀ (d k i : Nat) (p : List Int), i + d = l.length → d < k → p.length + 4 * d ≤ 140737488355000 →
    carillonref01_Put.l0 k l p (i : Int) = some (p ++ (l.drop i).flatMap (bytesBE 4)) := by
  intro d
  induction d with
  | zero =>
    intro k i p hi hk hp
    obtain ⟨k, rfl⟩ : ∃ m, k = m + 1 := ⟨k - 1, by omega⟩
    rw [carillonref01_Put.l0, if_neg (by omega), List.drop_of_length_le (by omega)]
    simp
  | succ d ih =>
    intro k i p hi hk hp
    obtain ⟨k, rfl⟩ : ∃ m, k = m + 1 := ⟨k - 1, by omega⟩
    rw [carillonref01_Put.l0, if_pos (by omega), if_pos (by omega), rd_get l i (by omega), bytes4]
    refine bind_to rfl ?_
    rw [if_pos (by rw [bytesBE_len]; omega), wsucc i (by omega), ih k (i + 1) _ (by omega) (by omega) (by simp [bytesBE_len]; omega), List.drop_eq_getElem_cons (show i < l.length by omega), List.flatMap_cons, List.append_assoc]
theorem rput_is (p l : List Int) (hn : l.length ≤ 100) (k : Nat) (hk : l.length < k) (hp : p.length ≤ 140737488351300) : carillonref01_Put.f k p l = some (p ++ l.flatMap (bytesBE 4)) := by
  unfold carillonref01_Put.f
  refine bind_to rfl ?_
  rw [if_pos (by simp; omega), List.nil_append]
  exact rput_loop l hn l.length k 0 p (by omega) hk (by omega)
theorem bytesBE_add (n m : Nat) (x : Int) : bytesBE (n + m) x = bytesBE n (x / 2 ^ (8 * m)) ++ bytesBE m x := by
  induction n with
  | zero => simp [bytesBE]
  | succ n ih =>
    rw [show n + 1 + m = (n + m) + 1 by omega, bytesBE, bytesBE, ih, List.cons_append]
    congr 2
    have hp : (0 : Int) ≤ 2 ^ (8 * m) := Int.le_of_lt (Int.pow_pos (by decide))
    rw [Int.ediv_ediv_of_nonneg hp, ← Int.pow_add]
    congr 2
    omega
theorem bytesBE_mod (n : Nat) (x : Int) (h : n ≤ 4) : bytesBE n (x % 4294967296) = bytesBE n x := by
  induction n with
  | zero => rfl
  | succ n ih =>
    rw [bytesBE, bytesBE, ih (by omega)]
    congr 1
    match n, h with
    | 0, _ => simp <;> omega
    | 1, _ => simp <;> omega
    | 2, _ => simp <;> omega
    | 3, _ => simp <;> omega
theorem rputlong_is (p : List Int) (x : Int) (k : Nat) (hk : 8 < k) (hp : p.length ≤ 140737488351300) : carillonref01_PutLong.f k p x = some (p ++ bytesBE 8 x) := by
  unfold carillonref01_PutLong.f
  refine bind_to (rput_is p [(x / 4294967296) % 4294967296, x % 4294967296] (by simp) k (by simp; omega) hp) ?_
  have e := bytesBE_add 4 4 x
  rw [show (2 : Int) ^ (8 * 4) = 4294967296 by decide] at e
  simp only [List.flatMap_cons, List.flatMap_nil, List.append_nil]
  rw [bytesBE_mod 4 _ (by omega), bytesBE_mod 4 _ (by omega), ← e]
theorem ldW_nat (b0 b1 b2 b3 : Int) (h0 : 0 ≤ b0 ∧ b0 < 256) (h1 : 0 ≤ b1 ∧ b1 < 256) (h2 : 0 ≤ b2 ∧ b2 < 256) (h3 : 0 ≤ b3 ∧ b3 < 256) :
    ((ofb b0 <<< 24 ||| ofb b1 <<< 16 ||| ofb b2 <<< 8 ||| ofb b3).toNat : Int) = ((b0 * 256 + b1) * 256 + b2) * 256 + b3 := by
  have e0 := ofb_toNat h0
  have e1 := ofb_toNat h1
  have e2 := ofb_toNat h2
  have e3 := ofb_toNat h3
  rw [BitVec.toNat_or, BitVec.toNat_or, BitVec.toNat_or, BitVec.toNat_shiftLeft, BitVec.toNat_shiftLeft, BitVec.toNat_shiftLeft]
  obtain ⟨n0, g0⟩ : ∃ n, (ofb b0).toNat = n := ⟨_, rfl⟩
  obtain ⟨n1, g1⟩ : ∃ n, (ofb b1).toNat = n := ⟨_, rfl⟩
  obtain ⟨n2, g2⟩ : ∃ n, (ofb b2).toNat = n := ⟨_, rfl⟩
  obtain ⟨n3, g3⟩ : ∃ n, (ofb b3).toNat = n := ⟨_, rfl⟩
  rw [g0, g1, g2, g3]
  rw [g0] at e0
  rw [g1] at e1
  rw [g2] at e2
  rw [g3] at e3
  have m0 : n0 <<< 24 = n0 * 16777216 := by rw [Nat.shiftLeft_eq]
  have m1 : n1 <<< 16 = n1 * 65536 := by rw [Nat.shiftLeft_eq]
  have m2 : n2 <<< 8 = n2 * 256 := by rw [Nat.shiftLeft_eq]
  rw [Nat.mod_eq_of_lt (by omega), Nat.mod_eq_of_lt (by omega), Nat.mod_eq_of_lt (by omega), Nat.or_assoc, Nat.or_assoc]
  have k2 := Nat.shiftLeft_add_eq_or_of_lt (b := n3) (i := 8) (by omega) n2
  rw [← k2]
  have k1 := Nat.shiftLeft_add_eq_or_of_lt (b := n2 <<< 8 + n3) (i := 16) (by omega) n1
  rw [← k1]
  have k0 := Nat.shiftLeft_add_eq_or_of_lt (b := n1 <<< 16 + (n2 <<< 8 + n3)) (i := 24) (by omega) n0
  rw [← k0]
  omega
theorem rload4 (xs : List Int) (hx : IsB xs) (hl : xs.length = 64) (t : Nat) (ht : t < 16) (a : Int) (ha : a = ((4 * t : Nat) : Int)) : carillonref01_Load.f 30 xs a = some (((ldW xs t).toNat : Int), 0) := by
  subst ha
  have h4 := rload_is xs (by omega) ((4 * t : Nat) : Int) 4 (by omega) 30 (by omega)
  rw [show ((4 : Nat) : Int) = 4 from rfl, if_pos (by omega), Int.toNat_natCast] at h4
  unfold carillonref01_Load.f
  refine bind_to h4 ?_
  have hb2 : IsB ((xs.drop (4 * t)).take 4) := (hx.drop _).take _
  have hlen : ((xs.drop (4 * t)).take 4).length = 4 := by simp; omega
  have f1 := horner_fold _ hb2 0 0 (by omega) (by omega) (by simp)
  have el : (xs.drop (4 * t)).take 4 = [xs.getD (4 * t) 0, xs.getD (4 * t + 1) 0, xs.getD (4 * t + 2) 0, xs.getD (4 * t + 3) 0] := by
    apply List.ext_getElem
    · simp; omega
    · intro i h1 h2
      have hi : i < 4 := by simpa using h2
      rw [List.getElem_take, List.getElem_drop]
      match i, hi with
      | 0, _ => simp [List.getElem?_eq_getElem (show 4 * t < xs.length by omega)]
      | 1, _ => simp [List.getElem?_eq_getElem (show 4 * t + 1 < xs.length by omega)]
      | 2, _ => simp [List.getElem?_eq_getElem (show 4 * t + 2 < xs.length by omega)]
      | 3, _ => simp [List.getElem?_eq_getElem (show 4 * t + 3 < xs.length by omega)]
  have e : x_gath64 ((xs.drop (4 * t)).take 4) % 4294967296 = ((ldW xs t).toNat : Int) := by
    unfold ldW
    have b0 := at_b hx (show 4 * t < xs.length by omega)
    have b1 := at_b hx (show 4 * t + 1 < xs.length by omega)
    have b2 := at_b hx (show 4 * t + 2 < xs.length by omega)
    have b3 := at_b hx (show 4 * t + 3 < xs.length by omega)
    rw [ldW_nat _ _ _ _ b0 b1 b2 b3]
    unfold x_gath64
    rw [f1.1, el]
    simp only [List.foldl_cons, List.foldl_nil]
    omega
  show some (x_gath64 ((xs.drop (4 * t)).take 4) % 4294967296, (0 : Int)) = _
  rw [e]
def KT : List (BitVec 32) := [1116352408#32, 1899447441#32, 3049323471#32, 3921009573#32, 961987163#32, 1508970993#32, 2453635748#32, 2870763221#32, 3624381080#32, 310598401#32, 607225278#32, 1426881987#32, 1925078388#32, 2162078206#32, 2614888103#32, 3248222580#32, 3835390401#32, 4022224774#32, 264347078#32, 604807628#32, 770255983#32, 1249150122#32, 1555081692#32, 1996064986#32, 2554220882#32, 2821834349#32, 2952996808#32, 3210313671#32, 3336571891#32, 3584528711#32, 113926993#32, 338241895#32, 666307205#32, 773529912#32, 1294757372#32, 1396182291#32, 1695183700#32, 1986661051#32, 2177026350#32, 2456956037#32, 2730485921#32, 2820302411#32, 3259730800#32, 3345764771#32, 3516065817#32, 3600352804#32, 4094571909#32, 275423344#32, 430227734#32, 506948616#32, 659060556#32, 883997877#32, 958139571#32, 1322822218#32, 1537002063#32, 1747873779#32, 1955562222#32, 2024104815#32, 2227730452#32, 2361852424#32, 2428436474#32, 2756734187#32, 3204031479#32, 3329325298#32]
set_option maxHeartbeats 4000000 in
set_option maxRecDepth 100000 in
theorem sh_table (w : World) : Calls Try.prog 102 #[] w fun e w' => e = .returned (.agg (row64 KT)) ∧ Below w.heap.size w w' := by
  have I1 : Aside0 ((Try.prog.info? 142).map (·.size) = some 64) := ⟨by kernel_rfl⟩
  go_enter Try.func102, Try.ntmps102
  go_wp2_with ((with_reducible refine gate_store (t := 142) (p := 0) (v := .tmp 1) rfl ?_); refine x_arrStore rfl 142 (.tmp 0) (.tmp 1) rfl w.heap.size (row64 []) (row64 KT) rfl rfl (heap_alloc_new _ _) (by rw [row_size KT (by decide)]; exact I1.out) (by rw [row_size KT (by decide), row_size [] (by simp)]) (row_one _) ?_; intro W1 hh hg; have GH := Aside0.mk hh; have GG := Aside0.mk hg; clear hh hg)
  refine bodyPost_ret (v := .agg (row64 KT)) (results_cell_row rfl _ _ w.heap.size _ (row64 KT) (0, 0) _ rfl GH.out Try.underlying142 rfl (by rw [row_size KT (by decide)]; exact I1.out)) rfl ⟨rfl, ?_⟩
  exact ((Below.refl _ _).alloc (Nat.le_refl _) _).grown GG.out (by simp) (fun k hk => by injection hk with hk; omega)
set_option maxHeartbeats 4000000 in
set_option maxRecDepth 100000 in
theorem rf_table (w : World) : Calls Try.prog 105 #[] w fun e w' => e = .returned (.agg (row64 KT)) ∧ Below w.heap.size w w' := by
  have I1 : Aside0 ((Try.prog.info? 142).map (·.size) = some 64) := ⟨by kernel_rfl⟩
  go_enter Try.func105, Try.ntmps105
  go_wp2_with ((with_reducible refine gate_store (t := 142) (p := 0) (v := .tmp 1) rfl ?_); refine x_arrStore rfl 142 (.tmp 0) (.tmp 1) rfl w.heap.size (row64 []) (row64 KT) rfl rfl (heap_alloc_new _ _) (by rw [row_size KT (by decide)]; exact I1.out) (by rw [row_size KT (by decide), row_size [] (by simp)]) (row_one _) ?_; intro W1 hh hg; have GH := Aside0.mk hh; have GG := Aside0.mk hg; clear hh hg)
  refine bodyPost_ret (v := .agg (row64 KT)) (results_cell_row rfl _ _ w.heap.size _ (row64 KT) (0, 0) _ rfl GH.out Try.underlying142 rfl (by rw [row_size KT (by decide)]; exact I1.out)) rfl ⟨rfl, ?_⟩
  exact ((Below.refl _ _).alloc (Nat.le_refl _) _).grown GG.out (by simp) (fun k hk => by injection hk with hk; omega)
def IV : W8 := ⟨1779033703#32, 3144134277#32, 1013904242#32, 2773480762#32, 1359893119#32, 2600822924#32, 528734635#32, 1541459225#32⟩
set_option maxHeartbeats 4000000 in
set_option maxRecDepth 100000 in
theorem sh_begin (w : World) : Calls Try.prog 100 #[] w fun e w' => e = .returned (.agg (w8A IV)) ∧ Below w.heap.size w w' := by
  have I2 : Aside0 ((Try.prog.info? 138).map (·.size) = some 8) := ⟨by kernel_rfl⟩
  go_enter Try.func100, Try.ntmps100
  go_wp2_with ((with_reducible refine gate_store (t := 138) (p := 0) (v := .tmp 1) rfl ?_); refine x_arrStore rfl 138 (.tmp 0) (.tmp 1) rfl w.heap.size _ (w8A IV) rfl rfl (heap_alloc_new _ _) I2.out rfl (st_one _ _ _ _ _ _ _ _) ?_; intro W1 hh hg; have GH := Aside0.mk hh; have GG := Aside0.mk hg; clear hh hg)
  refine bodyPost_ret (v := .agg (w8A IV)) (results_cell_row rfl _ _ w.heap.size _ (w8A IV) (0, 0) _ rfl GH.out Try.underlying138 rfl I2.out) rfl ⟨rfl, ?_⟩
  exact ((Below.refl _ _).alloc (Nat.le_refl _) _).grown GG.out (by simp) (fun k hk => by injection hk with hk; omega)
open Go.Proofs.Ytaoiamifofkklaa.PShaH
theorem rf_turnF (x : BitVec 32) (m : Int) (n : Nat) (e : m = (n : Int)) (hn : n ≤ 32) : carillonref02_turn.f (x.toNat : Int) m = some ((rotr x n).toNat : Int) := by
  subst e
  unfold carillonref02_turn.f
  have e1 : wrap64 (32 - (n : Int)) = ((32 - n : Nat) : Int) := by unfold wrap64; omega
  rw [e1]
  rw [if_pos (by omega), if_pos (by omega), x_shr32 x n hn, x_shl32 x (32 - n) (by omega), x_or32]
  rfl
theorem rf_mixP (x : BitVec 32) (a b c : Int) (na nb nc : Nat) (w : World) (ea : a = (na : Int)) (eb : b = (nb : Int)) (ec : c = (nc : Int)) (ha : na ≤ 32) (hb : nb ≤ 32) (hc : nc ≤ 32) :
    Calls Try.prog 106 #[.int .u32 (x.toNat : Int), .int .i64 a, .int .i64 b, .int .i64 c] w fun e w' => e = .returned (.int .u32 ((rotr x na ^^^ rotr x nb ^^^ rotr x nc).toNat : Int)) ∧ Drawn0 w w' := by
  refine carillonref02_mix.calls _ _ _ _ _ w ?_
  unfold carillonref02_mix.f
  rw [rf_turnF x a na ea ha, rf_turnF x b nb eb hb, rf_turnF x c nc ec hc]
  simp only [Option.bind_some]
  rw [if_neg (by omega), x_xor32, x_xor32]
theorem rf_mixN (x : BitVec 32) (a b c : Int) (na nb nc : Nat) (w : World) (ea : a = (na : Int)) (eb : b = (nb : Int)) (ec : c = -(nc : Int)) (ha : na ≤ 32) (hb : nb ≤ 32) (hc : nc ≤ 32) (h0 : 0 < nc) :
    Calls Try.prog 106 #[.int .u32 (x.toNat : Int), .int .i64 a, .int .i64 b, .int .i64 c] w fun e w' => e = .returned (.int .u32 ((rotr x na ^^^ rotr x nb ^^^ x >>> nc).toNat : Int)) ∧ Drawn0 w w' := by
  refine carillonref02_mix.calls _ _ _ _ _ w ?_
  unfold carillonref02_mix.f
  have e1 : wrap64 (-c) = (nc : Int) := by unfold wrap64; omega
  rw [rf_turnF x a na ea ha, rf_turnF x b nb eb hb, e1]
  simp only [Option.bind_some]
  rw [if_pos (by omega), if_pos (by omega), x_shr32 x nc hc, x_xor32, x_xor32]
end Go.Proofs.Ytaoiamifofkklaa.Obj
