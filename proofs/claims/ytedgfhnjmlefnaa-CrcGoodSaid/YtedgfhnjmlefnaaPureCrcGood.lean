/- Proved: carillonlaw05.CrcGood returns true: bytes with their sum behind are good, and good bytes are those ahead of the sum, fixed. Conditions: none. -/
import Derived.Test.YtedgfhnjmlefnaaPCrcx1
import Derived.Test.YtedgfhnjmlefnaaX1Pure
namespace Go.Proofs.Ytedgfhnjmlefnaa.Pure
open Go.RowKit Go.Proofs.Ytedgfhnjmlefnaa.PCrc Go.Proofs.YtedgfhnjmlefnaaW.PrintWords Go.Proofs.YtedgfhnjmlefnaaW.PrintLast Go.Proofs.YtedgfhnjmlefnaaW.PrintMore
set_option linter.unusedVariables false
set_option linter.unusedSimpArgs false
def rg10.T2 : Bool × List (List Nat × List Nat) := (true, [([], []), ([0], [0]), ([1], [1]), ([2, 1], [2]), ([3], [3]), ([4, 3], [3, 4]), ([3], [3]), ([6, 3], [3, 6]), ([7, 3], [3, 7]), ([5, 8, 3], [3, 5, 8]), ([3, 9], [3, 9]), ([10, 3], [10]), ([11], [11]), ([11], [11]), ([13, 11], [11, 13]), ([12, 14, 11], [11, 12, 14]), ([15, 11], [11, 15]), ([11], [11]), ([17, 11], [11, 17]), ([16, 18, 11], [11, 16, 18]), ([11, 19], [11, 19])])
def rg10.B2 : List Nat := [0, 1, 3, 7, 15, 31, 15, 79, 207, 511, 1023, 2047, 4095, 4095, 12287, 32767, 65535, 4095, 135167, 524287, 1048575]
theorem rg10.tab2 : rtab .any (opsOf Try.f10 2) = rg10.T2 := by kernel_rfl
theorem rg10.bits2 : waitsOk rg10.T2.2 rg10.B2 = true := by kernel_rfl
def rg10.T4 : Bool × List (List Nat × List Nat) := (true, [([], []), ([0], [0]), ([], []), ([2], [2]), ([3], [3]), ([4, 1], [4]), ([5], [5]), ([5], [5]), ([7, 5], [5, 7]), ([8, 5], [5, 8]), ([9, 5], [5, 9]), ([6, 10, 5], [5, 6, 10]), ([11, 5, 5], [5, 11]), ([12, 5], [5, 12]), ([5], [5]), ([14, 5], [5, 14]), ([13, 15, 5], [5, 13, 15]), ([5, 16], [5, 16]), ([1, 17], [1, 17]), ([18, 12], [18]), ([19, 19], [19]), ([19, 20], [19, 20]), ([21, 20, 0, 1, 2, 3, 4, 5, 6, 7, 8, 9, 10, 11, 12, 13, 14, 15, 16, 17, 18, 19, 20, 21], [21])])
def rg10.B4 : List Nat := [0, 1, 0, 4, 12, 31, 63, 63, 191, 447, 959, 2047, 4095, 8191, 63, 16447, 65535, 131071, 262143, 524287, 1048575, 2097151, 4194303]
theorem rg10.tab4 : rtab .any (opsOf Try.f10 4) = rg10.T4 := by kernel_rfl
theorem rg10.bits4 : waitsOk rg10.T4.2 rg10.B4 = true := by kernel_rfl
theorem n_and32 (a b : Nat) (ha : a < 4294967296) (hb : b < 4294967296) : Go.bits .and .u32 (a : Int) (b : Int) = ((a &&& b : Nat) : Int) := by
  have := x_and32 (BitVec.ofNat 32 a) (BitVec.ofNat 32 b)
  simpa [BitVec.toNat_ofNat, Nat.mod_eq_of_lt ha, Nat.mod_eq_of_lt hb] using this
theorem n_xor32 (a b : Nat) (ha : a < 4294967296) (hb : b < 4294967296) : Go.bits .xor .u32 (a : Int) (b : Int) = ((a ^^^ b : Nat) : Int) := by
  have := x_xor32 (BitVec.ofNat 32 a) (BitVec.ofNat 32 b)
  simpa [BitVec.toNat_ofNat, Nat.mod_eq_of_lt ha, Nat.mod_eq_of_lt hb] using this
theorem n_and64 (a b : Nat) (ha : a < 18446744073709551616) (hb : b < 18446744073709551616) : Go.bits .and .u64 (a : Int) (b : Int) = ((a &&& b : Nat) : Int) := by
  have := x_and64 (BitVec.ofNat 64 a) (BitVec.ofNat 64 b)
  simpa [BitVec.toNat_ofNat, Nat.mod_eq_of_lt ha, Nat.mod_eq_of_lt hb] using this
theorem n_xor64 (a b : Nat) (ha : a < 18446744073709551616) (hb : b < 18446744073709551616) : Go.bits .xor .u64 (a : Int) (b : Int) = ((a ^^^ b : Nat) : Int) := by
  have := x_xor64 (BitVec.ofNat 64 a) (BitVec.ofNat 64 b)
  simpa [BitVec.toNat_ofNat, Nat.mod_eq_of_lt ha, Nat.mod_eq_of_lt hb] using this
theorem tb_toNat (s k : Nat) : s / 2 ^ k &&& 1 = (s.testBit k).toNat := by
  rw [Nat.and_one_is_mod, Nat.testBit_eq_decide_div_mod_eq]
  rcases Nat.mod_two_eq_zero_or_one (s / 2 ^ k) with h | h <;> simp [h]
theorem xor_toNat (a b : Bool) : a.toNat ^^^ b.toNat = (a != b).toNat := by cases a <;> cases b <;> rfl
theorem toNat_is_one (a : Bool) : a.toNat = 1 ↔ a = true := by cases a <;> simp
theorem int_div_pow (s k : Nat) : (s : Int) / 2 ^ k = ((s / 2 ^ k : Nat) : Int) := by simp
/-- One bit more. -/
def cstep (n p s : Nat) (b : Bool) : Nat := if (s.testBit (n - 1) != b) = true then (2 * s % 2 ^ n) ^^^ p else 2 * s % 2 ^ n
theorem cstep_lt {n p s : Nat} {b : Bool} (hp : p < 2 ^ n) : cstep n p s b < 2 ^ n := by
  unfold cstep
  have h := Nat.mod_lt (2 * s) (Nat.two_pow_pos n)
  split
  · exact Nat.xor_lt_two_pow h hp
  · exact h
/-- Bit j of bytes, the highest of each first. -/
def cbit (l : List Int) (j : Nat) : Bool := ((l.getD (j / 8) 0).toNat).testBit (7 - j % 8)
def crun (n p : Nat) (bs : List Bool) (s : Nat) : Nat := bs.foldl (cstep n p) s
theorem crun_lt {n p : Nat} (hp : p < 2 ^ n) : ∀ (bs : List Bool) (s : Nat), s < 2 ^ n → crun n p bs s < 2 ^ n
  | [], _, h => h
  | b :: bs, s, _ => crun_lt hp bs _ (cstep_lt hp)
def cbs (l : List Int) : List Bool := (List.range (l.length * 8)).map (cbit l)
theorem getD_b {l : List Int} (hl : IsB l) (i : Nat) : 0 ≤ l.getD i 0 ∧ l.getD i 0 < 256 := by
  rw [List.getD_eq_getElem?_getD]
  by_cases h : i < l.length
  · rw [List.getElem?_eq_getElem h]; exact hl.get h
  · rw [List.getElem?_eq_none (by omega)]; exact ⟨by simp, by simp⟩
theorem bitAt_is {l : List Int} (hl : IsB l) (j : Nat) : crc_bitAt l j = ((cbit l j).toNat : Int) := by
  unfold crc_bitAt cbit
  have hb := getD_b hl (j / 8)
  obtain ⟨c, hc⟩ : ∃ c : Nat, l.getD (j / 8) 0 = (c : Int) := ⟨(l.getD (j / 8) 0).toNat, by omega⟩
  rw [hc] at hb ⊢
  rw [Int.emod_eq_of_lt (by omega) (by omega), int_div_pow, Int.toNat_natCast]
  have h1 : c / 2 ^ (7 - j % 8) < 4294967296 := Nat.lt_of_le_of_lt (Nat.div_le_self _ _) (by omega)
  have := n_and32 (c / 2 ^ (7 - j % 8)) 1 h1 (by omega)
  rw [tb_toNat] at this
  exact this
theorem pow_le32 {n : Nat} (h : n ≤ 32) : 2 ^ n ≤ 4294967296 := by
  have : 2 ^ n ≤ 2 ^ 32 := Nat.pow_le_pow_right (by omega) h
  simpa using this
theorem step_is {n p s : Nat} (b : Bool) (hn : 8 ≤ n) (hn' : n ≤ 32) (hp : p < 2 ^ n) (hs : s < 2 ^ n) : crc_step (p : Int) ((2 ^ n - 1 : Nat) : Int) (n - 1) (s : Int) (b.toNat : Int) = ((cstep n p s b : Nat) : Int) := by
  have h32 := pow_le32 hn'
  have h1 : s / 2 ^ (n - 1) < 4294967296 := Nat.lt_of_le_of_lt (Nat.div_le_self _ _) (by omega)
  have e1 : Go.bits .xor .u32 (Go.bits .and .u32 ((s : Int) / 2 ^ (n - 1)) 1) (b.toNat : Int) = ((s.testBit (n - 1) != b).toNat : Int) := by
    rw [int_div_pow]
    have := n_and32 (s / 2 ^ (n - 1)) 1 h1 (by omega)
    rw [tb_toNat] at this
    rw [show ((1 : Nat) : Int) = 1 from rfl] at this
    rw [this, n_xor32 _ _ (by have := Bool.toNat_lt (s.testBit (n - 1)); omega) (by have := Bool.toNat_lt b; omega), xor_toNat]
  have e2 : (s : Int) * 2 % 4294967296 = ((2 * s % 4294967296 : Nat) : Int) := by omega
  have e3 : Go.bits .and .u32 ((s : Int) * 2 % 4294967296) ((2 ^ n - 1 : Nat) : Int) = ((2 * s % 2 ^ n : Nat) : Int) := by
    rw [e2, n_and32 _ _ (Nat.mod_lt _ (by omega)) (by omega), Nat.and_two_pow_sub_one_eq_mod]
    congr 1
    rw [show (4294967296 : Nat) = 2 ^ 32 from rfl]
    exact Nat.mod_mod_of_dvd _ (Nat.pow_dvd_pow 2 hn')
  unfold crc_step cstep
  rw [e1, e3]
  have h2 : 2 * s % 2 ^ n < 2 ^ n := Nat.mod_lt _ (Nat.two_pow_pos n)
  cases hb : (s.testBit (n - 1) != b)
  · rfl
  · rw [if_pos (show (((true.toNat : Nat) : Int) == 1) = true from rfl), if_pos rfl]
    exact n_xor32 _ _ (by omega) (by omega)
theorem sum_is {n p s : Nat} {l : List Int} (hl : IsB l) (hn : 8 ≤ n) (hn' : n ≤ 32) (hp : p < 2 ^ n) (hs : s < 2 ^ n) : crc_sumOf (p : Int) ((2 ^ n - 1 : Nat) : Int) (n - 1) (s : Int) l = ((crun n p (cbs l) s : Nat) : Int) := by
  have main : ∀ (js : List Nat) (s : Nat), s < 2 ^ n → (js.map (crc_bitAt l)).foldl (crc_step (p : Int) ((2 ^ n - 1 : Nat) : Int) (n - 1)) (s : Int) = ((crun n p (js.map (cbit l)) s : Nat) : Int) := by
    intro js
    induction js with
    | nil => intro s _; rfl
    | cons j js ih =>
      intro s hs
      rw [List.map_cons, List.foldl_cons, bitAt_is hl, step_is _ hn hn' hp hs, ih _ (cstep_lt hp)]
      rfl
  exact main _ s hs
theorem mask_is {n : Nat} (hn : n ≤ 32) : IntKind.u64.wrap ((shl .u64 1 (n : Int)) - 1) = ((2 ^ n - 1 : Nat) : Int) := by
  have h32 := pow_le32 hn
  have h1 : 1 ≤ 2 ^ n := Nat.one_le_two_pow
  have e : shl .u64 1 (n : Int) = ((2 ^ n : Nat) : Int) := by
    unfold shl
    rw [Int.toNat_natCast, show min n IntKind.u64.bits = n from Nat.min_eq_left (by show n ≤ 64; omega), x_wrap_u64', Int.one_mul]
    have e2 : (2 : Int) ^ n = ((2 ^ n : Nat) : Int) := by simp
    rw [e2]
    omega
  rw [e, x_wrap_u64']
  omega
theorem polysum_is {n p s : Nat} {l : List Int} (hl : IsB l) (hlen : l.length ≤ 9223372036854775806) (hn : 8 ≤ n) (hn' : n ≤ 32) (hp : p < 2 ^ n) (hs : s < 2 ^ n) : crc_poly_sum.f (n : Int) (p : Int) (s : Int) l = some ((crun n p (cbs l) s : Nat) : Int) := by
  have h32 := pow_le32 hn'
  have h1 : 1 ≤ 2 ^ n := Nat.one_le_two_pow
  unfold crc_poly_sum.f crc_below_uint64.f
  rw [if_pos (by omega), mask_is hn']
  show (if _ then _ else _) = _
  rw [if_pos ⟨by omega, by omega, hlen⟩]
  have e : IntKind.u32.wrap ((2 ^ n - 1 : Nat) : Int) = ((2 ^ n - 1 : Nat) : Int) := by rw [IntKind.wrap_u32]; omega
  rw [e, Int.toNat_natCast, sum_is hl hn hn' hp hs]
/-- The sum of whole frames. -/
def cW (l : List Int) : Nat := crun 24 6122955 (cbs l) 16702650
theorem cW_lt (l : List Int) : cW l < 16777216 := crun_lt (n := 24) (by decide) _ _ (by decide)
theorem Whole_is {l : List Int} (hl : IsB l) (hlen : l.length ≤ 9223372036854775806) : crc_Whole.f l = some ((cW l : Nat) : Int) := by
  unfold crc_Whole.f crc_whole.f
  refine bind_to rfl ?_
  refine bind_to (polysum_is (n := 24) (p := 6122955) (s := 16702650) hl hlen (by decide) (by decide) (by decide) (by decide)) ?_
  rfl
/-- A sum's three bytes. -/
def be3 (s : Nat) : List Int := [((s / 65536 % 256 : Nat) : Int), ((s / 256 % 256 : Nat) : Int), ((s % 256 : Nat) : Int)]
theorem be3_b (s : Nat) : IsB (be3 s) := by
  intro x hx
  simp only [be3, List.mem_cons, List.not_mem_nil, or_false] at hx
  rcases hx with rfl | rfl | rfl <;> omega
theorem be3_len (s : Nat) : (be3 s).length = 3 := rfl
theorem shr8 (s : Nat) (i : Nat) (hi : i ≤ 32) : (shr .u32 (s : Int) (i : Int)) = ((s / 2 ^ i : Nat) : Int) := by
  unfold shr
  rw [Int.toNat_natCast, show min i IntKind.u32.bits = i from Nat.min_eq_left (by show i ≤ 32; exact hi), int_div_pow]
theorem Fix_is {l : List Int} (hl : IsB l) (hlen : l.length ≤ 140737488351250) (k : Nat) (hk : 4 ≤ k) : crc_Fix.f k l = some (l ++ be3 (cW l)) := by
  obtain ⟨k, rfl⟩ : ∃ m, k = m + 4 := ⟨k - 4, by omega⟩
  have e0 : wrap64 ((l.length : Int) + 3) = (l.length : Int) + 3 := x_w64 (by omega) (by omega)
  unfold crc_Fix.f
  refine bind_to (Whole_is hl (by omega)) ?_
  rw [e0, if_pos (by omega), if_pos (by omega)]
  refine bind_to rfl ?_
  rw [List.replicate_zero, if_pos (by simp; omega), List.nil_append]
  have hw := cW_lt l
  generalize cW l = s at hw ⊢
  have e2 : shr .u32 (s : Int) (wrap64 (8 * 2)) % 256 = ((s / 65536 % 256 : Nat) : Int) := by
    rw [show wrap64 (8 * 2) = ((16 : Nat) : Int) by unfold wrap64; omega, shr8 _ _ (by omega)]; omega
  have e1 : shr .u32 (s : Int) (wrap64 (8 * 1)) % 256 = ((s / 256 % 256 : Nat) : Int) := by
    rw [show wrap64 (8 * 1) = ((8 : Nat) : Int) by unfold wrap64; omega, shr8 _ _ (by omega)]; omega
  have e0' : shr .u32 (s : Int) (wrap64 (8 * 0)) % 256 = ((s % 256 : Nat) : Int) := by
    rw [show wrap64 (8 * 0) = ((0 : Nat) : Int) by unfold wrap64; omega, shr8 _ _ (by omega)]; omega
  have g2 : 0 ≤ wrap64 (8 * 2) := by unfold wrap64; omega
  have g1 : 0 ≤ wrap64 (8 * 1) := by unfold wrap64; omega
  have g0 : 0 ≤ wrap64 (8 * 0) := by unfold wrap64; omega
  rw [crc_Fix.l0, if_pos (by decide), if_pos g2, if_pos (by omega), e2, show wrap64 (2 - 1) = 1 by unfold wrap64; omega]
  rw [crc_Fix.l0, if_pos (by decide), if_pos g1, if_pos (by simp; omega), e1, show wrap64 (1 - 1) = 0 by unfold wrap64; omega]
  rw [crc_Fix.l0, if_pos (by decide), if_pos g0, if_pos (by simp; omega), e0', show wrap64 (0 - 1) = -1 by unfold wrap64; omega]
  rw [crc_Fix.l0, if_neg (by decide)]
  simp [be3]
def val3 (t : List Int) : Int := crc_gath t
theorem or_shift (a c : Nat) (ha : a < 16777216) (hc : c < 256) : Go.bits .or .u32 (((a : Int) * 256) % 4294967296) ((c : Int) % 4294967296) = ((a * 256 + c : Nat) : Int) := by
  have e1 : ((a : Int) * 256) % 4294967296 = ((a * 256 : Nat) : Int) := by omega
  have e2 : (c : Int) % 4294967296 = (c : Int) := by omega
  have := x_or32 (BitVec.ofNat 32 (a * 256)) (BitVec.ofNat 32 c)
  rw [e1, e2]
  rw [BitVec.toNat_or, BitVec.toNat_ofNat, BitVec.toNat_ofNat, Nat.mod_eq_of_lt (by omega), Nat.mod_eq_of_lt (by omega)] at this
  rw [this]
  congr 1
  rw [Nat.mul_comm, show 256 = 2 ^ 8 from rfl]
  exact (Nat.two_pow_add_eq_or_of_lt (by omega) _).symm
theorem val3_is {a b c : Nat} (ha : a < 256) (hb : b < 256) (hc : c < 256) : val3 [(a : Int), (b : Int), (c : Int)] = ((a * 65536 + b * 256 + c : Nat) : Int) := by
  unfold val3 crc_gath
  rw [List.foldl_cons, List.foldl_cons, List.foldl_cons, List.foldl_nil]
  rw [show (0 : Int) = ((0 : Nat) : Int) from rfl, or_shift 0 a (by omega) ha, or_shift _ b (by omega) hb, or_shift _ c (by omega) hc]
  omega
theorem be3_of {t : List Int} (ht : IsB t) (h3 : t.length = 3) : ∃ s, s < 16777216 ∧ t = be3 s ∧ val3 t = (s : Int) := by
  match t, h3 with
  | [x, y, z], _ =>
    have hx := ht x (by simp)
    have hy := ht y (by simp)
    have hz := ht z (by simp)
    obtain ⟨a, rfl⟩ : ∃ a : Nat, x = (a : Int) := ⟨x.toNat, by omega⟩
    obtain ⟨b, rfl⟩ : ∃ a : Nat, y = (a : Int) := ⟨y.toNat, by omega⟩
    obtain ⟨c, rfl⟩ : ∃ a : Nat, z = (a : Int) := ⟨z.toNat, by omega⟩
    refine ⟨a * 65536 + b * 256 + c, by omega, ?_, val3_is (by omega) (by omega) (by omega)⟩
    unfold be3
    rw [show (a * 65536 + b * 256 + c) / 65536 % 256 = a by omega, show (a * 65536 + b * 256 + c) / 256 % 256 = b by omega, show (a * 65536 + b * 256 + c) % 256 = c by omega]
theorem be3_inj {s t : Nat} (hs : s < 16777216) (ht : t < 16777216) (h : be3 s = be3 t) : s = t := by
  unfold be3 at h
  simp only [List.cons.injEq, and_true] at h
  omega
/-- Is the sum behind that of the bytes ahead? -/
def isGood (l : List Int) : Prop := 3 ≤ l.length ∧ l.drop (l.length - 3) = be3 (cW (l.take (l.length - 3)))
instance (l : List Int) : Decidable (isGood l) := inferInstanceAs (Decidable (_ ∧ _))
theorem Good_is {l : List Int} (hl : IsB l) (hlen : l.length ≤ 9223372036854775806) : crc_Good.f l = some (decide (isGood l)) := by
  unfold crc_Good.f
  rw [if_pos hlen]
  by_cases h : l.length < 3
  · rw [if_pos (by omega)]
    congr 1
    exact (decide_eq_false (fun h' => by have := h'.1; omega)).symm
  · rw [if_neg (by omega)]
    have e3 : (l.drop (l.length - 3)).length = 3 := by rw [List.length_drop]; omega
    obtain ⟨s, hs, e4, e5⟩ := be3_of (IsB.drop hl _) e3
    have hw := cW_lt (l.take (l.length - 3))
    refine bind_to (Whole_is (IsB.take hl _) (by rw [List.length_take]; omega)) ?_
    have e6 := e5
    unfold val3 at e6
    rw [e6]
    congr 1
    rw [Bool.eq_iff_iff, beq_iff_eq, decide_eq_true_eq]
    constructor
    · intro h'
      refine ⟨by omega, ?_⟩
      rw [e4, show s = cW (l.take (l.length - 3)) by omega]
    · intro h'
      have := h'.2
      rw [e4] at this
      rw [be3_inj hs hw this]
theorem good_fix (l : List Int) : isGood (l ++ be3 (cW l)) := by
  unfold isGood
  rw [List.length_append, be3_len, Nat.add_sub_cancel, List.drop_left, List.take_left]
  exact ⟨by omega, rfl⟩
theorem good_iff (l : List Int) (h3 : 3 ≤ l.length) : isGood l ↔ l.take (l.length - 3) ++ be3 (cW (l.take (l.length - 3))) = l := by
  unfold isGood
  constructor
  · rintro ⟨_, h⟩
    rw [← h, List.take_append_drop]
  · intro h
    refine ⟨h3, ?_⟩
    have := List.take_append_drop (l.length - 3) l
    exact List.append_cancel_left (this.trans h.symm)
theorem awake_is (k : Nat) (hk : 4 ≤ k) : carillonlaw05_awake.f k = some true := by
  have hb : IsB [1, 2, 3] := by
    intro x hx
    simp only [List.mem_cons, List.not_mem_nil, or_false] at hx
    rcases hx with rfl | rfl | rfl <;> omega
  unfold carillonlaw05_awake.f
  refine bind_to (Fix_is hb (by simp) k hk) ?_
  refine bind_to (Good_is (IsB.append hb (be3_b _)) (by simp [be3_len])) ?_
  rw [decide_eq_true (good_fix _)]
def FixPost (w : World) (X : List Int) (m : Nat) (e : Ending) (w' : World) : Prop := ∃ A q, e = .returned (.slice A m q) ∧ Aside0 (m ≤ q) ∧ Aside0 (Kd.C (Kd.int .u8) w' A m X) ∧ Aside0 (Below w.heap.size w w')
theorem fix_n (A : Option Addr) (c n m : Nat) (l X : List Int) (w : World) (hn : l.length = n) (hC : Kd.C (Kd.int .u8) w A n l) (hc : n ≤ c) (hb : IsB l) (hlen : n ≤ 140737488351250) (hX : l ++ be3 (cW l) = X) (hm : n + 3 = m) :
    Calls Try.prog 32 #[.slice A n c] w (FixPost w X m) := by
  subst hn
  have hXl : X.length = m := by rw [← hX, List.length_append, be3_len]; exact hm
  refine (crc_Fix.calls 4 A c l X w hC hc (by rw [Fix_is hb hlen 4 (by omega), hX])).mono ?_
  rintro e w' ⟨v, rfl, hv, hbw⟩
  obtain ⟨A', q, rfl, h1, h2⟩ := Kd.R_reads hv
  rw [hXl] at h1 h2 ⊢
  exact ⟨A', q, rfl, ⟨h1⟩, ⟨h2⟩, ⟨hbw⟩⟩
theorem good_n (A : Option Addr) (c n : Nat) (l : List Int) (r : Bool) (w : World) (hn : l.length = n) (hC : Kd.C (Kd.int .u8) w A n l) (hc : n ≤ c) (hb : IsB l) (hlen : n ≤ 140737488351258) (hr : decide (isGood l) = r) :
    Calls Try.prog 33 #[.slice A n c] w fun e w' => e = .returned (.bool r) ∧ Below w.heap.size w w' := by
  subst hn
  exact crc_Good.calls A c l r w hC hc (by rw [Good_is hb (by omega), hr])
theorem awake_n (w : World) : Calls Try.prog 34 #[] w fun e w' => e = .returned (.bool true) ∧ Below w.heap.size w w' := carillonlaw05_awake.calls 4 true w (awake_is 4 (Nat.le_refl _))
theorem str_n (A : Option Addr) (c n : Nat) (l : List Int) (w : World) (hn : l.length = n) (h : Kd.C (Kd.int .u8) w A n l) : ∀ w', Below w.heap.size w w' → (convert 26 9 (.slice A n c)).run Try.prog w' = .ok (.string (strOfNums l)) w' := by
  subst hn
  exact fun w' hb => Kd.C_string (P := Try.prog) (A := A) (c := c) Try.underlying26 Try.underlying5 Try.underlying9 (Kd.C_below h hb)
theorem take_n (A : Option Addr) (c n m : Nat) (l q : List Int) (w : World) (hn : l.length = n) (hm : m ≤ n) (hC : Kd.C (Kd.int .u8) w A n l) (hc : n ≤ c) (hq : l.take m = q) :
    (∀ W : World, (Instr.slice 26 (.slice A n c) none (some (.int .i64 m)) none).run Try.prog W = .ok (.slice A m c) W) ∧ Kd.C (Kd.int .u8) w A m q ∧ q.length = m := by
  subst hn
  have lq : q.length = m := by rw [← hq, List.length_take]; omega
  obtain ⟨i0, hi0, _, hsz, _⟩ := info_parts info5
  obtain ⟨hcut, hA, _⟩ := print_take_of (P := Try.prog) (Value.int .u8) 0 26 5 .i64 Try.underlying26 hi0 hsz A c l (m : Int) (by omega) (by omega) hc
  have h := Kd.C_of_reads (d := (0 : Int)) (h1 := fun _ => rfl) (hA w (Kd.reads_of_C hC))
  rw [Int.toNat_natCast, hq, lq] at hcut h
  exact ⟨hcut, h, lq⟩
attribute [local go_sem] max2_int max_two
set_option maxHeartbeats 8000000 in
set_option maxRecDepth 100000 in
theorem CrcGood : carillonlaw05_CrcGood.Pure := by
  intro A0 c0 l w hr0 hc0 hm y0 hw0
  have hb := IsB.wf hw0
  obtain ⟨n, hn⟩ : ∃ n, l.length = n := ⟨_, rfl⟩
  have hlim : n ≤ 140737488351232 := by omega
  obtain ⟨X, hX⟩ : ∃ X, l ++ be3 (cW l) = X := ⟨_, rfl⟩
  have hXl : X.length = n + 3 := by rw [← hX, List.length_append, be3_len, hn]
  have hXb : IsB X := by rw [← hX]; exact IsB.append hb (be3_b _)
  have hXg : decide (isGood X) = true := by rw [← hX]; exact decide_eq_true (good_fix l)
  have hXt : X.take n = l := by rw [← hX, ← hn]; exact List.take_left
  rw [hn] at hr0 hc0 ⊢
  have HR0 := Aside0.mk hr0
  have HC0 := Aside0.mk hc0
  have HB0 := Aside0.mk hb
  have HN := Aside0.mk hn
  have HX := Aside0.mk hX
  have HXL := Aside0.mk hXl
  have HXB := Aside0.mk hXb
  have HXG := Aside0.mk hXg
  have HXT := Aside0.mk hXt
  clear hr0 hc0 hm y0 hw0 hb hn hX hXl hXb hXg hXt
  go_enter Try.func10, Try.ntmps10
  go_wp2_with fail
  refine (fix_n A0 c0 n (n + 3) l X w HN.out HR0.out HC0.out HB0.out (by omega) HX.out rfl).mono ?_
  rintro e w1 ⟨Ax, nx, rfl, KX1, KX2, KXB⟩
  obtain ⟨hcut, hwin, _⟩ := take_n Ax nx (n + 3) n X l w1 HXL.out (by omega) KX2.out KX1.out HXT.out
  have HB := KXB
  have HB1 := Aside0.mk (Below.refl w1.heap.size w1)
  have HS1 := Aside0.mk (str_n Ax nx n l w1 HN.out hwin)
  have HS2 := Aside0.mk (str_n A0 c0 n l w HN.out HR0.out)
  clear KXB hwin
  have hw3 : wrap64 ((n : Int) + 3) = (n : Int) + 3 := x_w64 (by omega) (by omega)
  have hne3 : ((n : Int) + 3 != wrap64 ((n : Int) + 3)) = false := by rw [hw3]; simp
  clear hw3
  go_wp2_with fail
  refine start_ (n := 21) (S := fun w' => (convert 26 9 (.slice Ax n nx)).run Try.prog w' = .ok (.string (strOfNums l)) w' ∧ (convert 26 9 (.slice A0 n c0)).run Try.prog w' = .ok (.string (strOfNums l)) w') (ds := []) #[false, false, false, false, false, false, false, false, false, false, false, false, false, false, false, false, false, false, false, false, false] (by kernel_rfl) rfl rfl ⟨HS1.out _ (by repeat (first | exact HB1.out | apply below_drew | apply below_alloc | apply pw_below_drewN)), HS2.out _ (by repeat (first | exact HB.out | apply below_drew | apply below_alloc | apply pw_below_drewN))⟩ (fun hHeld => ?_); refine with_tabW rg10.tab2 rg10.bits2 (fun HT_ HW_ => ?_)
  refine take_ (i := 0) (N := (some 6)) (v := ?_) (a' := ?_) #[true, false, false, false, false, false, false, false, false, false, false, false, false, false, false, false, false, false, false, false, false] rfl rfl (take_ofW HT_.out HW_.out (by kernel_rfl)) (fun _ _ _ h => h) (Or.inl ⟨by rfl, ?_⟩) hHeld ?_ ?_
  rotate_left
  · rintro w' ⟨s0_, s1_⟩
    go_simp
    with_reducible rfl
  rotate_left
  · simp only [Act.put, List.setIfInBounds_toArray, List.set_cons_zero, List.set_cons_succ, i64_w, i32_w]
    rfl
  refine one_ (i := 1) (N := (some 7)) #[true, true, false, false, false, false, false, false, false, false, false, false, false, false, false, false, false, false, false, false, false] rfl rfl (one_of HT_.out (by kernel_rfl)) (by decide) (fun K hK => ?_)
  refine goes_ Try.func33 (by kernel_rfl) rfl #[.slice Ax (n + 3) nx] (by rfl) rfl rfl (by first | rfl | (simp only [List.map_toArray, List.map_cons, List.map_nil]; try rfl)) ?_
  (with_reducible refine (good_n Ax nx (n + 3) X true _ HXL.out (Kd.C_below KX2.out (by repeat (first | exact HB1.out | apply below_drew | apply below_alloc | apply pw_below_drewN))) KX1.out HXB.out (by omega) HXG.out).mono ?_)
  rintro e_ w_ ⟨rfl, hb⟩
  have n_ := Aside0.mk (below_step (by repeat (first | exact HB.out | apply below_drew | apply below_alloc | apply pw_below_drewN)) hb)
  have m_ := Aside0.mk (below_step (by repeat (first | exact HB1.out | apply below_drew | apply below_alloc | apply pw_below_drewN)) hb)
  clear HB HB1 hb
  have HB := n_
  have HB1 := m_
  clear n_ m_
  refine ⟨_, rfl, ?_⟩
  refine hK.out _ _ ⟨HS1.out _ (by repeat (first | exact HB1.out | apply below_drew | apply below_alloc | apply pw_below_drewN)), HS2.out _ (by repeat (first | exact HB.out | apply below_drew | apply below_alloc | apply pw_below_drewN))⟩ (fun hHeld => ?_)
  clear hK K
  refine norm_ (a' := ?_) ?_ ?_
  rotate_left
  · show Act.put _ (some 7) _ = _
    simp only [Act.put, List.setIfInBounds_toArray, List.set_cons_zero, List.set_cons_succ, i64_w, i32_w]
    rfl
  refine take_ (i := 2) (N := (some 8)) (v := ?_) (a' := ?_) #[true, true, true, false, false, false, false, false, false, false, false, false, false, false, false, false, false, false, false, false, false] rfl rfl (take_ofW HT_.out HW_.out (by kernel_rfl)) (fun _ _ _ h => h) (Or.inl ⟨by rfl, ?_⟩) hHeld ?_ ?_
  rotate_left
  · rintro w' ⟨s0_, s1_⟩
    go_simp
    with_reducible rfl
  rotate_left
  · simp only [Act.put, List.setIfInBounds_toArray, List.set_cons_zero, List.set_cons_succ, i64_w, i32_w]
    rfl
  refine take_ (i := 3) (N := (some 9)) (v := ?_) (a' := ?_) #[true, true, true, true, false, false, false, false, false, false, false, false, false, false, false, false, false, false, false, false, false] rfl rfl (take_ofW HT_.out HW_.out (by kernel_rfl)) (fun _ _ _ h => h) (Or.inl ⟨by rfl, ?_⟩) hHeld ?_ ?_
  rotate_left
  · rintro w' ⟨s0_, s1_⟩
    go_simp
    with_reducible rfl
  rotate_left
  · simp only [Act.put, List.setIfInBounds_toArray, List.set_cons_zero, List.set_cons_succ, i64_w, i32_w]
    rfl
  refine take_ (i := 4) (N := (some 10)) (v := ?_) (a' := ?_) #[true, true, true, true, true, false, false, false, false, false, false, false, false, false, false, false, false, false, false, false, false] rfl rfl (take_ofW HT_.out HW_.out (by kernel_rfl)) (fun _ _ _ h => h) (Or.inl ⟨by rfl, ?_⟩) hHeld ?_ ?_
  rotate_left
  · rintro w' ⟨s0_, s1_⟩
    go_simp
    with_reducible rfl
  rotate_left
  · simp only [Act.put, List.setIfInBounds_toArray, List.set_cons_zero, List.set_cons_succ, i64_w, i32_w]
    rfl
  refine take_ (i := 5) (N := (some 11)) (v := ?_) (a' := ?_) #[true, true, true, true, true, true, false, false, false, false, false, false, false, false, false, false, false, false, false, false, false] rfl rfl (take_ofW HT_.out HW_.out (by kernel_rfl)) (fun _ _ _ h => h) (Or.inl ⟨by rfl, ?_⟩) hHeld ?_ ?_
  rotate_left
  · rintro w' ⟨s0_, s1_⟩
    go_simp
    with_reducible rfl
  rotate_left
  · simp only [Act.put, List.setIfInBounds_toArray, List.set_cons_zero, List.set_cons_succ, i64_w, i32_w]
    rfl
  refine take_ (i := 6) (N := (some 12)) (v := ?_) (a' := ?_) #[true, true, true, true, true, true, true, false, false, false, false, false, false, false, false, false, false, false, false, false, false] rfl rfl (take_ofW HT_.out HW_.out (by kernel_rfl)) (fun _ _ _ h => h) (Or.inl ⟨by rfl, ?_⟩) hHeld ?_ ?_
  rotate_left
  · rintro w' ⟨s0_, s1_⟩
    go_simp
    with_reducible rfl
  rotate_left
  · simp only [Act.put, List.setIfInBounds_toArray, List.set_cons_zero, List.set_cons_succ, i64_w, i32_w]
    rfl
  refine take_ (i := 7) (N := (some 13)) (v := ?_) (a' := ?_) #[true, true, true, true, true, true, true, true, false, false, false, false, false, false, false, false, false, false, false, false, false] rfl rfl (take_ofW HT_.out HW_.out (by kernel_rfl)) (fun _ _ _ h => h) (Or.inl ⟨by rfl, ?_⟩) hHeld ?_ ?_
  rotate_left
  · rintro w' ⟨s0_, s1_⟩
    go_simp
    with_reducible rfl
  rotate_left
  · simp only [Act.put, List.setIfInBounds_toArray, List.set_cons_zero, List.set_cons_succ, i64_w, i32_w]
    rfl
  refine take_ (i := 8) (N := (some 14)) (v := ?_) (a' := ?_) #[true, true, true, true, true, true, true, true, true, false, false, false, false, false, false, false, false, false, false, false, false] rfl rfl (take_ofW HT_.out HW_.out (by kernel_rfl)) (fun _ _ _ h => h) (Or.inl ⟨by rfl, ?_⟩) hHeld ?_ ?_
  rotate_left
  · rintro w' ⟨s0_, s1_⟩
    go_simp
    with_reducible rfl
  rotate_left
  · simp only [Act.put, List.setIfInBounds_toArray, List.set_cons_zero, List.set_cons_succ, i64_w, i32_w]
    rfl
  refine take_ (i := 9) (N := (some 15)) (v := ?_) (a' := ?_) #[true, true, true, true, true, true, true, true, true, true, false, false, false, false, false, false, false, false, false, false, false] rfl rfl (take_ofW HT_.out HW_.out (by kernel_rfl)) (fun _ _ _ h => h) (Or.inl ⟨by rfl, ?_⟩) hHeld ?_ ?_
  rotate_left
  · rintro w' ⟨s0_, s1_⟩
    go_simp
    with_reducible rfl
  rotate_left
  · simp only [Act.put, List.setIfInBounds_toArray, List.set_cons_zero, List.set_cons_succ, i64_w, i32_w]
    rfl
  refine take_ (i := 10) (N := (some 16)) (v := ?_) (a' := ?_) #[true, true, true, true, true, true, true, true, true, true, true, false, false, false, false, false, false, false, false, false, false] rfl rfl (take_ofW HT_.out HW_.out (by kernel_rfl)) (fun _ _ _ h => h) (Or.inl ⟨by rfl, ?_⟩) hHeld ?_ ?_
  rotate_left
  · rintro w' ⟨s0_, s1_⟩
    go_simp
    with_reducible rfl
  rotate_left
  · simp only [Act.put, List.setIfInBounds_toArray, List.set_cons_zero, List.set_cons_succ, i64_w, i32_w]
    rfl
  refine take_ (i := 11) (N := (some 17)) (v := ?_) (a' := ?_) #[true, true, true, true, true, true, true, true, true, true, true, true, false, false, false, false, false, false, false, false, false] rfl rfl (take_ofW HT_.out HW_.out (by kernel_rfl)) (fun _ _ _ h => h) (Or.inl ⟨by rfl, ?_⟩) hHeld ?_ ?_
  rotate_left
  · rintro w' ⟨s0_, s1_⟩
    go_simp
    with_reducible rfl
  rotate_left
  · simp only [Act.put, List.setIfInBounds_toArray, List.set_cons_zero, List.set_cons_succ, i64_w, i32_w]
    rfl
  refine take_ (i := 12) (N := (some 18)) (v := ?_) (a' := ?_) #[true, true, true, true, true, true, true, true, true, true, true, true, true, false, false, false, false, false, false, false, false] rfl rfl (take_ofW HT_.out HW_.out (by kernel_rfl)) (fun _ _ _ h => h) (Or.inl ⟨by rfl, ?_⟩) hHeld ?_ ?_
  rotate_left
  · rintro w' ⟨s0_, s1_⟩
    go_simp
    with_reducible rfl
  rotate_left
  · simp only [Act.put, List.setIfInBounds_toArray, List.set_cons_zero, List.set_cons_succ, i64_w, i32_w]
    rfl
  refine take_ (i := 13) (N := (some 19)) (v := ?_) (a' := ?_) #[true, true, true, true, true, true, true, true, true, true, true, true, true, true, false, false, false, false, false, false, false] rfl rfl (take_ofW HT_.out HW_.out (by kernel_rfl)) (fun _ _ _ h => h) (Or.inl ⟨by rfl, ?_⟩) hHeld ?_ ?_
  rotate_left
  · rintro w' ⟨s0_, s1_⟩
    go_simp
    with_reducible rfl
  rotate_left
  · simp only [Act.put, List.setIfInBounds_toArray, List.set_cons_zero, List.set_cons_succ, i64_w, i32_w]
    rfl
  refine take_ (i := 14) (N := (some 20)) (v := ?_) (a' := ?_) #[true, true, true, true, true, true, true, true, true, true, true, true, true, true, true, false, false, false, false, false, false] rfl rfl (take_ofW HT_.out HW_.out (by kernel_rfl)) (fun _ _ _ h => h) (Or.inl ⟨by rfl, ?_⟩) hHeld ?_ ?_
  rotate_left
  · rintro w' ⟨s0_, s1_⟩
    go_simp
    with_reducible rfl
  rotate_left
  · simp only [Act.put, List.setIfInBounds_toArray, List.set_cons_zero, List.set_cons_succ, i64_w, i32_w]
    rfl
  refine take_ (i := 15) (N := (some 21)) (v := ?_) (a' := ?_) #[true, true, true, true, true, true, true, true, true, true, true, true, true, true, true, true, false, false, false, false, false] rfl rfl (take_ofW HT_.out HW_.out (by kernel_rfl)) (fun _ _ _ h => h) (Or.inl ⟨by rfl, ?_⟩) hHeld ?_ ?_
  rotate_left
  · rintro w' ⟨s0_, s1_⟩
    go_simp
    with_reducible rfl
  rotate_left
  · simp only [Act.put, List.setIfInBounds_toArray, List.set_cons_zero, List.set_cons_succ, i64_w, i32_w]
    rfl
  refine take_ (i := 16) (N := (some 22)) (v := ?_) (a' := ?_) #[true, true, true, true, true, true, true, true, true, true, true, true, true, true, true, true, true, false, false, false, false] rfl rfl (take_ofW HT_.out HW_.out (by kernel_rfl)) (fun _ _ _ h => h) (Or.inl ⟨by rfl, ?_⟩) hHeld ?_ ?_
  rotate_left
  · rintro w' ⟨s0_, s1_⟩
    go_simp
    with_reducible rfl
  rotate_left
  · simp only [Act.put, List.setIfInBounds_toArray, List.set_cons_zero, List.set_cons_succ, i64_w, i32_w]
    rfl
  refine take_ (i := 17) (N := (some 23)) (v := ?_) (a' := ?_) #[true, true, true, true, true, true, true, true, true, true, true, true, true, true, true, true, true, true, false, false, false] rfl rfl (take_ofW HT_.out HW_.out (by kernel_rfl)) (fun _ _ _ h => h) (Or.inl ⟨by rfl, ?_⟩) hHeld ?_ ?_
  rotate_left
  · rintro w' ⟨s0_, s1_⟩
    go_simp
    with_reducible rfl
  rotate_left
  · simp only [Act.put, List.setIfInBounds_toArray, List.set_cons_zero, List.set_cons_succ, i64_w, i32_w]
    rfl
  refine take_ (i := 18) (N := (some 24)) (v := ?_) (a' := ?_) #[true, true, true, true, true, true, true, true, true, true, true, true, true, true, true, true, true, true, true, false, false] rfl rfl (take_ofW HT_.out HW_.out (by kernel_rfl)) (fun _ _ _ h => h) (Or.inl ⟨by rfl, ?_⟩) hHeld ?_ ?_
  rotate_left
  · rintro w' ⟨s0_, s1_⟩
    go_simp
    with_reducible rfl
  rotate_left
  · simp only [Act.put, List.setIfInBounds_toArray, List.set_cons_zero, List.set_cons_succ, i64_w, i32_w]
    rfl
  refine take_ (i := 19) (N := (some 25)) (v := ?_) (a' := ?_) #[true, true, true, true, true, true, true, true, true, true, true, true, true, true, true, true, true, true, true, true, false] rfl rfl (take_ofW HT_.out HW_.out (by kernel_rfl)) (fun _ _ _ h => h) (Or.inl ⟨by rfl, ?_⟩) hHeld ?_ ?_
  rotate_left
  · rintro w' ⟨s0_, s1_⟩
    go_simp
    with_reducible rfl
  rotate_left
  · simp only [Act.put, List.setIfInBounds_toArray, List.set_cons_zero, List.set_cons_succ, i64_w, i32_w]
    rfl
  refine take_ (i := 20) (N := (some 26)) (v := ?_) (a' := ?_) #[true, true, true, true, true, true, true, true, true, true, true, true, true, true, true, true, true, true, true, true, true] rfl rfl (take_ofW HT_.out HW_.out (by kernel_rfl)) (fun _ _ _ h => h) (Or.inl ⟨by rfl, ?_⟩) hHeld ?_ ?_
  rotate_left
  · rintro w' ⟨s0_, s1_⟩
    go_simp
    with_reducible rfl
  rotate_left
  · simp only [Act.put, List.setIfInBounds_toArray, List.set_cons_zero, List.set_cons_succ, i64_w, i32_w]
    rfl
  refine done_ (done_of HT_.out (by kernel_rfl)) ?_
  go_wp2_with fail
  clear hne3 hcut HB1 HS1
  by_cases h3 : 3 ≤ n
  · obtain ⟨m, rfl⟩ : ∃ m, n = m + 3 := ⟨n - 3, by omega⟩
    obtain ⟨q, hq⟩ : ∃ q, l.take m = q := ⟨_, rfl⟩
    obtain ⟨hcut, hwin, hql⟩ := take_n A0 c0 (m + 3) m l q w HN.out (by omega) HR0.out HC0.out hq
    obtain ⟨Y, hY⟩ : ∃ Y, q ++ be3 (cW q) = Y := ⟨_, rfl⟩
    obtain ⟨r, hr⟩ : ∃ r, decide (isGood l) = r := ⟨_, rfl⟩
    have hqb : IsB q := by rw [← hq]; exact IsB.take HB0.out m
    have hYb : IsB Y := by rw [← hY]; exact IsB.append hqb (be3_b _)
    have hYl : Y.length = m + 3 := by rw [← hY, List.length_append, be3_len, hql]
    have hcmp : ((strOfNums Y).toList == (strOfNums l).toList) = r := by
      rw [str_beq hYb HB0.out, ← hr, decide_eq_decide, ← hY, ← hq, show m = l.length - 3 by have := HN.out; omega]
      exact (good_iff l (by have := HN.out; omega)).symm
    have HQW := Aside0.mk hwin
    have HQL := Aside0.mk hql
    have HQB := Aside0.mk hqb
    have HY := Aside0.mk hY
    have HYL := Aside0.mk hYl
    have HRR := Aside0.mk hr
    have hwm : wrap64 (m : Int) = (m : Int) := x_w64 (by omega) (by omega)
    have hnm : ((m : Int) < 0) = False := eq_false (by omega)
    have hd3 : decide (3 ≤ (m : Int) + 3) = true := decide_eq_true (by omega)
    clear hwin hq hql hqb hYb hYl hY hr
    refine start_ (n := 23) (S := fun w' => (convert 26 9 (.slice A0 (m + 3) c0)).run Try.prog w' = .ok (.string (strOfNums l)) w') (ds := []) #[false, false, false, false, false, false, false, false, false, false, false, false, false, false, false, false, false, false, false, false, false, false, false] (by kernel_rfl) rfl rfl (HS2.out _ (by repeat (first | exact HB.out | apply below_drew | apply below_alloc | apply pw_below_drewN))) (fun hHeld => ?_); refine with_tabW rg10.tab4 rg10.bits4 (fun HT_ HW_ => ?_)
    refine take_ (i := 0) (N := (some 27)) (v := ?_) (a' := ?_) #[true, false, false, false, false, false, false, false, false, false, false, false, false, false, false, false, false, false, false, false, false, false, false] rfl rfl (take_ofW HT_.out HW_.out (by kernel_rfl)) (fun _ _ _ h => h) (Or.inl ⟨by rfl, ?_⟩) hHeld ?_ ?_
    rotate_left
    · rintro w' s0_
      go_simp
      with_reducible rfl
    rotate_left
    · simp only [Act.put, List.setIfInBounds_toArray, List.set_cons_zero, List.set_cons_succ, i64_w, i32_w]
      rfl
    refine take_ (i := 2) (N := (some 29)) (v := ?_) (a' := ?_) #[true, false, true, false, false, false, false, false, false, false, false, false, false, false, false, false, false, false, false, false, false, false, false] rfl rfl (take_ofW HT_.out HW_.out (by kernel_rfl)) (fun _ _ _ h => h) (Or.inl ⟨by rfl, ?_⟩) hHeld ?_ ?_
    rotate_left
    · rintro w' s0_
      go_simp
      with_reducible rfl
    rotate_left
    · simp only [Act.put, List.setIfInBounds_toArray, List.set_cons_zero, List.set_cons_succ, i64_w, i32_w]
      rfl
    refine take_ (i := 3) (N := (some 30)) (v := ?_) (a' := ?_) #[true, false, true, true, false, false, false, false, false, false, false, false, false, false, false, false, false, false, false, false, false, false, false] rfl rfl (take_ofW HT_.out HW_.out (by kernel_rfl)) (fun _ _ _ h => h) (Or.inl ⟨by rfl, ?_⟩) hHeld ?_ ?_
    rotate_left
    · rintro w' s0_
      go_simp
      with_reducible rfl
    rotate_left
    · simp only [Act.put, List.setIfInBounds_toArray, List.set_cons_zero, List.set_cons_succ, i64_w, i32_w]
      rfl
    refine take_ (i := 4) (N := (some 31)) (v := ?_) (a' := ?_) #[true, false, true, true, true, false, false, false, false, false, false, false, false, false, false, false, false, false, false, false, false, false, false] rfl rfl (take_ofW HT_.out HW_.out (by kernel_rfl)) (fun _ _ _ h => h) (Or.inl ⟨by rfl, ?_⟩) hHeld ?_ ?_
    rotate_left
    · rintro w' s0_
      go_simp
      with_reducible rfl
    rotate_left
    · simp only [Act.put, List.setIfInBounds_toArray, List.set_cons_zero, List.set_cons_succ, i64_w, i32_w]
      rfl
    refine one_ (i := 1) (N := (some 28)) #[true, true, true, true, true, false, false, false, false, false, false, false, false, false, false, false, false, false, false, false, false, false, false] rfl rfl (one_of HT_.out (by kernel_rfl)) (by decide) (fun K hK => ?_)
    refine goes_ Try.func33 (by kernel_rfl) rfl #[.slice A0 (m + 3) c0] (by rfl) rfl rfl (by first | rfl | (simp only [List.map_toArray, List.map_cons, List.map_nil]; try rfl)) ?_
    (with_reducible refine (good_n A0 c0 (m + 3) l r _ HN.out (Kd.C_below HR0.out (by repeat (first | exact HB.out | apply below_drew | apply below_alloc | apply pw_below_drewN))) HC0.out HB0.out (by omega) HRR.out).mono ?_)
    rintro e_ w_ ⟨rfl, hb⟩
    have n_ := Aside0.mk (below_step (by repeat (first | exact HB.out | apply below_drew | apply below_alloc | apply pw_below_drewN)) hb)
    (try (have m_ := Aside0.mk (below_step (by repeat (first | exact HBY.out | apply below_drew | apply below_alloc | apply pw_below_drewN)) hb); clear HBY; have HBY := m_; clear m_))
    clear HB hb
    have HB := n_
    clear n_
    refine ⟨_, rfl, ?_⟩
    refine hK.out _ _ (HS2.out _ (by repeat (first | exact HB.out | apply below_drew | apply below_alloc | apply pw_below_drewN))) (fun hHeld => ?_)
    clear hK K
    refine norm_ (a' := ?_) ?_ ?_
    rotate_left
    · show Act.put _ (some 28) _ = _
      simp only [Act.put, List.setIfInBounds_toArray, List.set_cons_zero, List.set_cons_succ, i64_w, i32_w]
      rfl
    refine take_ (i := 5) (N := (some 32)) (v := ?_) (a' := ?_) #[true, true, true, true, true, true, false, false, false, false, false, false, false, false, false, false, false, false, false, false, false, false, false] rfl rfl (take_ofW HT_.out HW_.out (by kernel_rfl)) (fun _ _ _ h => h) (Or.inl ⟨by rfl, ?_⟩) hHeld ?_ ?_
    rotate_left
    · rintro w' s0_
      go_simp
      with_reducible rfl
    rotate_left
    · simp only [Act.put, List.setIfInBounds_toArray, List.set_cons_zero, List.set_cons_succ, i64_w, i32_w]
      rfl
    refine take_ (i := 6) (N := (some 33)) (v := ?_) (a' := ?_) #[true, true, true, true, true, true, true, false, false, false, false, false, false, false, false, false, false, false, false, false, false, false, false] rfl rfl (take_ofW HT_.out HW_.out (by kernel_rfl)) (fun _ _ _ h => h) (Or.inl ⟨by rfl, ?_⟩) hHeld ?_ ?_
    rotate_left
    · rintro w' s0_
      go_simp
      with_reducible rfl
    rotate_left
    · simp only [Act.put, List.setIfInBounds_toArray, List.set_cons_zero, List.set_cons_succ, i64_w, i32_w]
      rfl
    refine take_ (i := 7) (N := (some 34)) (v := ?_) (a' := ?_) #[true, true, true, true, true, true, true, true, false, false, false, false, false, false, false, false, false, false, false, false, false, false, false] rfl rfl (take_ofW HT_.out HW_.out (by kernel_rfl)) (fun _ _ _ h => h) (Or.inl ⟨by rfl, ?_⟩) hHeld ?_ ?_
    rotate_left
    · rintro w' s0_
      go_simp
      with_reducible rfl
    rotate_left
    · simp only [Act.put, List.setIfInBounds_toArray, List.set_cons_zero, List.set_cons_succ, i64_w, i32_w]
      rfl
    refine take_ (i := 8) (N := (some 35)) (v := ?_) (a' := ?_) #[true, true, true, true, true, true, true, true, true, false, false, false, false, false, false, false, false, false, false, false, false, false, false] rfl rfl (take_ofW HT_.out HW_.out (by kernel_rfl)) (fun _ _ _ h => h) (Or.inl ⟨by rfl, ?_⟩) hHeld ?_ ?_
    rotate_left
    · rintro w' s0_
      go_simp
      with_reducible rfl
    rotate_left
    · simp only [Act.put, List.setIfInBounds_toArray, List.set_cons_zero, List.set_cons_succ, i64_w, i32_w]
      rfl
    refine take_ (i := 9) (N := (some 36)) (v := ?_) (a' := ?_) #[true, true, true, true, true, true, true, true, true, true, false, false, false, false, false, false, false, false, false, false, false, false, false] rfl rfl (take_ofW HT_.out HW_.out (by kernel_rfl)) (fun _ _ _ h => h) (Or.inl ⟨by rfl, ?_⟩) hHeld ?_ ?_
    rotate_left
    · rintro w' s0_
      go_simp
      with_reducible rfl
    rotate_left
    · simp only [Act.put, List.setIfInBounds_toArray, List.set_cons_zero, List.set_cons_succ, i64_w, i32_w]
      rfl
    refine take_ (i := 10) (N := (some 37)) (v := ?_) (a' := ?_) #[true, true, true, true, true, true, true, true, true, true, true, false, false, false, false, false, false, false, false, false, false, false, false] rfl rfl (take_ofW HT_.out HW_.out (by kernel_rfl)) (fun _ _ _ h => h) (Or.inl ⟨by rfl, ?_⟩) hHeld ?_ ?_
    rotate_left
    · rintro w' s0_
      go_simp
      with_reducible rfl
    rotate_left
    · simp only [Act.put, List.setIfInBounds_toArray, List.set_cons_zero, List.set_cons_succ, i64_w, i32_w]
      rfl
    refine take_ (i := 11) (N := (some 38)) (v := ?_) (a' := ?_) #[true, true, true, true, true, true, true, true, true, true, true, true, false, false, false, false, false, false, false, false, false, false, false] rfl rfl (take_ofW HT_.out HW_.out (by kernel_rfl)) (fun _ _ _ h => h) (Or.inl ⟨by rfl, ?_⟩) hHeld ?_ ?_
    rotate_left
    · rintro w' s0_
      go_simp
      with_reducible rfl
    rotate_left
    · simp only [Act.put, List.setIfInBounds_toArray, List.set_cons_zero, List.set_cons_succ, i64_w, i32_w]
      rfl
    refine take_ (i := 14) (N := (some 41)) (v := ?_) (a' := ?_) #[true, true, true, true, true, true, true, true, true, true, true, true, false, false, true, false, false, false, false, false, false, false, false] rfl rfl (take_ofW HT_.out HW_.out (by kernel_rfl)) (fun _ _ _ h => h) (Or.inl ⟨by rfl, ?_⟩) hHeld ?_ ?_
    rotate_left
    · rintro w' s0_
      go_simp
      with_reducible rfl
    rotate_left
    · simp only [Act.put, List.setIfInBounds_toArray, List.set_cons_zero, List.set_cons_succ, i64_w, i32_w]
      rfl
    refine take_ (i := 15) (N := (some 42)) (v := ?_) (a' := ?_) #[true, true, true, true, true, true, true, true, true, true, true, true, false, false, true, true, false, false, false, false, false, false, false] rfl rfl (take_ofW HT_.out HW_.out (by kernel_rfl)) (fun _ _ _ h => h) (Or.inl ⟨by rfl, ?_⟩) hHeld ?_ ?_
    rotate_left
    · rintro w' s0_
      go_simp
      with_reducible rfl
    rotate_left
    · simp only [Act.put, List.setIfInBounds_toArray, List.set_cons_zero, List.set_cons_succ, i64_w, i32_w]
      rfl
    refine one_ (i := 12) (N := (some 39)) #[true, true, true, true, true, true, true, true, true, true, true, true, true, false, true, true, false, false, false, false, false, false, false] rfl rfl (one_of HT_.out (by kernel_rfl)) (by decide) (fun K hK => ?_)
    refine goes_ Try.func32 (by kernel_rfl) rfl #[.slice A0 m c0] (by rfl) rfl rfl (by first | rfl | (simp only [List.map_toArray, List.map_cons, List.map_nil]; try rfl)) ?_
    (with_reducible refine (fix_n A0 c0 m (m + 3) q Y _ HQL.out (Kd.C_below HQW.out (by repeat (first | exact HB.out | apply below_drew | apply below_alloc | apply pw_below_drewN))) (by have := HC0.out; omega) HQB.out (by omega) HY.out rfl).mono ?_)
    rintro e_ w_ ⟨Ay, ny, rfl, KY1, KY2, hb_⟩
    have hb := hb_.out
    clear hb_
    have HYS := Aside0.mk (str_n Ay ny (m + 3) Y w_ HYL.out KY2.out)
    have n_ := Aside0.mk (below_step (by repeat (first | exact HB.out | apply below_drew | apply below_alloc | apply pw_below_drewN)) hb)
    (try (have m_ := Aside0.mk (below_step (by repeat (first | exact HBY.out | apply below_drew | apply below_alloc | apply pw_below_drewN)) hb); clear HBY; have HBY := m_; clear m_))
    clear HB hb
    have HB := n_
    clear n_
    have HBY := Aside0.mk (Below.refl w_.heap.size w_)
    refine ⟨_, rfl, ?_⟩
    refine hK.out _ _ (HS2.out _ (by repeat (first | exact HB.out | apply below_drew | apply below_alloc | apply pw_below_drewN))) (fun hHeld => ?_)
    clear hK K
    refine norm_ (a' := ?_) ?_ ?_
    rotate_left
    · show Act.put _ (some 39) _ = _
      simp only [Act.put, List.setIfInBounds_toArray, List.set_cons_zero, List.set_cons_succ, i64_w, i32_w]
      rfl
    refine one_ (i := 13) (N := (some 40)) #[true, true, true, true, true, true, true, true, true, true, true, true, true, true, true, true, false, false, false, false, false, false, false] rfl rfl (one_of HT_.out (by kernel_rfl)) (by decide) (fun K hK => ?_)
    refine value_ (by rfl) rfl (v := ?_) (w1 := ?_) ?_ ?_
    rotate_left 2
    · (go_simp; rw [HYS.out] <;> first | rfl | (repeat (first | exact HBY.out | apply below_drew | apply below_alloc | apply pw_below_drewN)))
    refine hK.out _ _ (HS2.out _ (by repeat (first | exact HB.out | apply below_drew | apply below_alloc | apply pw_below_drewN))) (fun hHeld => ?_)
    clear hK K
    refine norm_ (a' := ?_) ?_ ?_
    rotate_left
    · show Act.put _ (some 40) _ = _
      simp only [Act.put, List.setIfInBounds_toArray, List.set_cons_zero, List.set_cons_succ, i64_w, i32_w]
      rfl
    refine take_ (i := 16) (N := (some 43)) (v := ?_) (a' := ?_) #[true, true, true, true, true, true, true, true, true, true, true, true, true, true, true, true, true, false, false, false, false, false, false] rfl rfl (take_ofW HT_.out HW_.out (by kernel_rfl)) (fun _ _ _ h => h) (Or.inl ⟨by rfl, ?_⟩) hHeld ?_ ?_
    rotate_left
    · rintro w' s0_
      go_simp
      with_reducible rfl
    rotate_left
    · simp only [Act.put, List.setIfInBounds_toArray, List.set_cons_zero, List.set_cons_succ, i64_w, i32_w]
      rfl
    refine take_ (i := 17) (N := (some 44)) (v := ?_) (a' := ?_) #[true, true, true, true, true, true, true, true, true, true, true, true, true, true, true, true, true, true, false, false, false, false, false] rfl rfl (take_ofW HT_.out HW_.out (by kernel_rfl)) (fun _ _ _ h => h) (Or.inl ⟨by rfl, ?_⟩) hHeld ?_ ?_
    rotate_left
    · rintro w' s0_
      go_simp
      with_reducible rfl
    rotate_left
    · simp only [Act.put, List.setIfInBounds_toArray, List.set_cons_zero, List.set_cons_succ, i64_w, i32_w]
      rfl
    refine take_ (i := 18) (N := (some 45)) (v := ?_) (a' := ?_) #[true, true, true, true, true, true, true, true, true, true, true, true, true, true, true, true, true, true, true, false, false, false, false] rfl rfl (take_ofW HT_.out HW_.out (by kernel_rfl)) (fun _ _ _ h => h) (Or.inl ⟨by rfl, ?_⟩) hHeld ?_ ?_
    rotate_left
    · rintro w' s0_
      go_simp
      with_reducible rfl
    rotate_left
    · simp only [Act.put, List.setIfInBounds_toArray, List.set_cons_zero, List.set_cons_succ, i64_w, i32_w]
      rfl
    refine take_ (i := 19) (N := (some 46)) (v := ?_) (a' := ?_) #[true, true, true, true, true, true, true, true, true, true, true, true, true, true, true, true, true, true, true, true, false, false, false] rfl rfl (take_ofW HT_.out HW_.out (by kernel_rfl)) (fun _ _ _ h => h) (Or.inl ⟨by rfl, ?_⟩) hHeld ?_ ?_
    rotate_left
    · rintro w' s0_
      go_simp
      with_reducible rfl
    rotate_left
    · simp only [Act.put, List.setIfInBounds_toArray, List.set_cons_zero, List.set_cons_succ, i64_w, i32_w]
      rfl
    refine one_ (i := 20) (N := (some 47)) #[true, true, true, true, true, true, true, true, true, true, true, true, true, true, true, true, true, true, true, true, true, false, false] rfl rfl (one_of HT_.out (by kernel_rfl)) (by decide) (fun K hK => ?_)
    refine goes_ Try.func34 (by kernel_rfl) rfl #[] (by rfl) rfl rfl (by first | rfl | (simp only [List.map_toArray, List.map_cons, List.map_nil]; try rfl)) ?_
    (with_reducible refine (awake_n _).mono ?_)
    rintro e_ w_ ⟨rfl, hb⟩
    have n_ := Aside0.mk (below_step (by repeat (first | exact HB.out | apply below_drew | apply below_alloc | apply pw_below_drewN)) hb)
    (try (have m_ := Aside0.mk (below_step (by repeat (first | exact HBY.out | apply below_drew | apply below_alloc | apply pw_below_drewN)) hb); clear HBY; have HBY := m_; clear m_))
    clear HB hb
    have HB := n_
    clear n_
    refine ⟨_, rfl, ?_⟩
    refine hK.out _ _ (HS2.out _ (by repeat (first | exact HB.out | apply below_drew | apply below_alloc | apply pw_below_drewN))) (fun hHeld => ?_)
    clear hK K
    refine norm_ (a' := ?_) ?_ ?_
    rotate_left
    · show Act.put _ (some 47) _ = _
      simp only [Act.put, List.setIfInBounds_toArray, List.set_cons_zero, List.set_cons_succ, i64_w, i32_w]
      rfl
    refine take_ (i := 21) (N := (some 48)) (v := ?_) (a' := ?_) #[true, true, true, true, true, true, true, true, true, true, true, true, true, true, true, true, true, true, true, true, true, true, false] rfl rfl (take_ofW HT_.out HW_.out (by kernel_rfl)) (fun _ _ _ h => h) (Or.inl ⟨by rfl, ?_⟩) hHeld ?_ ?_
    rotate_left
    · rintro w' s0_
      go_simp
      with_reducible rfl
    rotate_left
    · simp only [Act.put, List.setIfInBounds_toArray, List.set_cons_zero, List.set_cons_succ, i64_w, i32_w]
      rfl
    refine take_ (i := 22) (N := (some 2)) (v := ?_) (a' := ?_) #[true, true, true, true, true, true, true, true, true, true, true, true, true, true, true, true, true, true, true, true, true, true, true] rfl rfl (take_ofW HT_.out HW_.out (by kernel_rfl)) (fun _ _ _ h => h) (Or.inl ⟨by rfl, ?_⟩) hHeld ?_ ?_
    rotate_left
    · rintro w' s0_
      go_simp
      with_reducible rfl
    rotate_left
    · simp only [Act.put, List.setIfInBounds_toArray, List.set_cons_zero, List.set_cons_succ, i64_w, i32_w]
      rfl
    refine done_ (done_of HT_.out (by kernel_rfl)) ?_
    go_wp2
    go_ret
    exact ⟨rfl, HB.out⟩
  · have hd3 : decide (3 ≤ (n : Int)) = false := decide_eq_false (by omega)
    have hgf : decide (isGood l) = false := decide_eq_false (fun h => by have := h.1; have := HN.out; omega)
    have HRR := Aside0.mk hgf
    clear hgf
    refine start_ (n := 23) (S := fun w' => True) (ds := []) #[false, false, false, false, false, false, false, false, false, false, false, false, false, false, false, false, false, false, false, false, false, false, false] (by kernel_rfl) rfl rfl trivial (fun hHeld => ?_); refine with_tabW rg10.tab4 rg10.bits4 (fun HT_ HW_ => ?_)
    refine take_ (i := 0) (N := (some 27)) (v := ?_) (a' := ?_) #[true, false, false, false, false, false, false, false, false, false, false, false, false, false, false, false, false, false, false, false, false, false, false] rfl rfl (take_ofW HT_.out HW_.out (by kernel_rfl)) (fun _ _ _ h => h) (Or.inl ⟨by rfl, ?_⟩) hHeld ?_ ?_
    rotate_left
    · rintro w' _
      go_simp
      with_reducible rfl
    rotate_left
    · simp only [Act.put, List.setIfInBounds_toArray, List.set_cons_zero, List.set_cons_succ, i64_w, i32_w]
      rfl
    refine take_ (i := 2) (N := (some 29)) (v := ?_) (a' := ?_) #[true, false, true, false, false, false, false, false, false, false, false, false, false, false, false, false, false, false, false, false, false, false, false] rfl rfl (take_ofW HT_.out HW_.out (by kernel_rfl)) (fun _ _ _ h => h) (Or.inl ⟨by rfl, ?_⟩) hHeld ?_ ?_
    rotate_left
    · rintro w' _
      go_simp
      with_reducible rfl
    rotate_left
    · simp only [Act.put, List.setIfInBounds_toArray, List.set_cons_zero, List.set_cons_succ, i64_w, i32_w]
      rfl
    refine take_ (i := 3) (N := (some 30)) (v := ?_) (a' := ?_) #[true, false, true, true, false, false, false, false, false, false, false, false, false, false, false, false, false, false, false, false, false, false, false] rfl rfl (take_ofW HT_.out HW_.out (by kernel_rfl)) (fun _ _ _ h => h) (Or.inl ⟨by rfl, ?_⟩) hHeld ?_ ?_
    rotate_left
    · rintro w' _
      go_simp
      with_reducible rfl
    rotate_left
    · simp only [Act.put, List.setIfInBounds_toArray, List.set_cons_zero, List.set_cons_succ, i64_w, i32_w]
      rfl
    refine take_ (i := 4) (N := (some 31)) (v := ?_) (a' := ?_) #[true, false, true, true, true, false, false, false, false, false, false, false, false, false, false, false, false, false, false, false, false, false, false] rfl rfl (take_ofW HT_.out HW_.out (by kernel_rfl)) (fun _ _ _ h => h) (Or.inl ⟨by rfl, ?_⟩) hHeld ?_ ?_
    rotate_left
    · rintro w' _
      go_simp
      with_reducible rfl
    rotate_left
    · simp only [Act.put, List.setIfInBounds_toArray, List.set_cons_zero, List.set_cons_succ, i64_w, i32_w]
      rfl
    refine one_ (i := 1) (N := (some 28)) #[true, true, true, true, true, false, false, false, false, false, false, false, false, false, false, false, false, false, false, false, false, false, false] rfl rfl (one_of HT_.out (by kernel_rfl)) (by decide) (fun K hK => ?_)
    refine goes_ Try.func33 (by kernel_rfl) rfl #[.slice A0 n c0] (by rfl) rfl rfl (by first | rfl | (simp only [List.map_toArray, List.map_cons, List.map_nil]; try rfl)) ?_
    (with_reducible refine (good_n A0 c0 n l false _ HN.out (Kd.C_below HR0.out (by repeat (first | exact HB.out | apply below_drew | apply below_alloc | apply pw_below_drewN))) HC0.out HB0.out (by omega) HRR.out).mono ?_)
    rintro e_ w_ ⟨rfl, hb⟩
    have n_ := Aside0.mk (below_step (by repeat (first | exact HB.out | apply below_drew | apply below_alloc | apply pw_below_drewN)) hb)
    clear HB hb
    have HB := n_
    clear n_
    refine ⟨_, rfl, ?_⟩
    refine hK.out _ _ trivial (fun hHeld => ?_)
    clear hK K
    refine norm_ (a' := ?_) ?_ ?_
    rotate_left
    · show Act.put _ (some 28) _ = _
      simp only [Act.put, List.setIfInBounds_toArray, List.set_cons_zero, List.set_cons_succ, i64_w, i32_w]
      rfl
    refine take_ (i := 5) (N := (some 32)) (v := ?_) (a' := ?_) #[true, true, true, true, true, true, false, false, false, false, false, false, false, false, false, false, false, false, false, false, false, false, false] rfl rfl (take_ofW HT_.out HW_.out (by kernel_rfl)) (fun _ _ _ h => h) (Or.inl ⟨by rfl, ?_⟩) hHeld ?_ ?_
    rotate_left
    · rintro w' _
      go_simp
      with_reducible rfl
    rotate_left
    · simp only [Act.put, List.setIfInBounds_toArray, List.set_cons_zero, List.set_cons_succ, i64_w, i32_w]
      rfl
    refine take_ (i := 6) (N := (some 33)) (v := undef) (a' := ?_) #[true, true, true, true, true, true, true, false, false, false, false, false, false, false, false, false, false, false, false, false, false, false, false] rfl rfl (take_ofW HT_.out HW_.out (by kernel_rfl)) (fun _ _ _ h => h) (Or.inr ⟨by rfl, rfl⟩) hHeld ?_ ?_
    rotate_left
    · simp only [Act.put, List.setIfInBounds_toArray, List.set_cons_zero, List.set_cons_succ, i64_w, i32_w]
      rfl
    refine take_ (i := 7) (N := (some 34)) (v := undef) (a' := ?_) #[true, true, true, true, true, true, true, true, false, false, false, false, false, false, false, false, false, false, false, false, false, false, false] rfl rfl (take_ofW HT_.out HW_.out (by kernel_rfl)) (fun _ _ _ h => h) (Or.inr ⟨by rfl, rfl⟩) hHeld ?_ ?_
    rotate_left
    · simp only [Act.put, List.setIfInBounds_toArray, List.set_cons_zero, List.set_cons_succ, i64_w, i32_w]
      rfl
    refine take_ (i := 8) (N := (some 35)) (v := undef) (a' := ?_) #[true, true, true, true, true, true, true, true, true, false, false, false, false, false, false, false, false, false, false, false, false, false, false] rfl rfl (take_ofW HT_.out HW_.out (by kernel_rfl)) (fun _ _ _ h => h) (Or.inr ⟨by rfl, rfl⟩) hHeld ?_ ?_
    rotate_left
    · simp only [Act.put, List.setIfInBounds_toArray, List.set_cons_zero, List.set_cons_succ, i64_w, i32_w]
      rfl
    refine take_ (i := 9) (N := (some 36)) (v := undef) (a' := ?_) #[true, true, true, true, true, true, true, true, true, true, false, false, false, false, false, false, false, false, false, false, false, false, false] rfl rfl (take_ofW HT_.out HW_.out (by kernel_rfl)) (fun _ _ _ h => h) (Or.inr ⟨by rfl, rfl⟩) hHeld ?_ ?_
    rotate_left
    · simp only [Act.put, List.setIfInBounds_toArray, List.set_cons_zero, List.set_cons_succ, i64_w, i32_w]
      rfl
    refine take_ (i := 10) (N := (some 37)) (v := undef) (a' := ?_) #[true, true, true, true, true, true, true, true, true, true, true, false, false, false, false, false, false, false, false, false, false, false, false] rfl rfl (take_ofW HT_.out HW_.out (by kernel_rfl)) (fun _ _ _ h => h) (Or.inr ⟨by rfl, rfl⟩) hHeld ?_ ?_
    rotate_left
    · simp only [Act.put, List.setIfInBounds_toArray, List.set_cons_zero, List.set_cons_succ, i64_w, i32_w]
      rfl
    refine take_ (i := 11) (N := (some 38)) (v := undef) (a' := ?_) #[true, true, true, true, true, true, true, true, true, true, true, true, false, false, false, false, false, false, false, false, false, false, false] rfl rfl (take_ofW HT_.out HW_.out (by kernel_rfl)) (fun _ _ _ h => h) (Or.inr ⟨by rfl, rfl⟩) hHeld ?_ ?_
    rotate_left
    · simp only [Act.put, List.setIfInBounds_toArray, List.set_cons_zero, List.set_cons_succ, i64_w, i32_w]
      rfl
    refine take_ (i := 12) (N := (some 39)) (v := undef) (a' := ?_) #[true, true, true, true, true, true, true, true, true, true, true, true, true, false, false, false, false, false, false, false, false, false, false] rfl rfl (take_ofW HT_.out HW_.out (by kernel_rfl)) (fun _ _ _ h => h) (Or.inr ⟨by rfl, rfl⟩) hHeld ?_ ?_
    rotate_left
    · simp only [Act.put, List.setIfInBounds_toArray, List.set_cons_zero, List.set_cons_succ, i64_w, i32_w]
      rfl
    refine take_ (i := 13) (N := (some 40)) (v := undef) (a' := ?_) #[true, true, true, true, true, true, true, true, true, true, true, true, true, true, false, false, false, false, false, false, false, false, false] rfl rfl (take_ofW HT_.out HW_.out (by kernel_rfl)) (fun _ _ _ h => h) (Or.inr ⟨by rfl, rfl⟩) hHeld ?_ ?_
    rotate_left
    · simp only [Act.put, List.setIfInBounds_toArray, List.set_cons_zero, List.set_cons_succ, i64_w, i32_w]
      rfl
    refine take_ (i := 14) (N := (some 41)) (v := undef) (a' := ?_) #[true, true, true, true, true, true, true, true, true, true, true, true, true, true, true, false, false, false, false, false, false, false, false] rfl rfl (take_ofW HT_.out HW_.out (by kernel_rfl)) (fun _ _ _ h => h) (Or.inr ⟨by rfl, rfl⟩) hHeld ?_ ?_
    rotate_left
    · simp only [Act.put, List.setIfInBounds_toArray, List.set_cons_zero, List.set_cons_succ, i64_w, i32_w]
      rfl
    refine take_ (i := 15) (N := (some 42)) (v := undef) (a' := ?_) #[true, true, true, true, true, true, true, true, true, true, true, true, true, true, true, true, false, false, false, false, false, false, false] rfl rfl (take_ofW HT_.out HW_.out (by kernel_rfl)) (fun _ _ _ h => h) (Or.inr ⟨by rfl, rfl⟩) hHeld ?_ ?_
    rotate_left
    · simp only [Act.put, List.setIfInBounds_toArray, List.set_cons_zero, List.set_cons_succ, i64_w, i32_w]
      rfl
    refine take_ (i := 16) (N := (some 43)) (v := undef) (a' := ?_) #[true, true, true, true, true, true, true, true, true, true, true, true, true, true, true, true, true, false, false, false, false, false, false] rfl rfl (take_ofW HT_.out HW_.out (by kernel_rfl)) (fun _ _ _ h => h) (Or.inr ⟨by rfl, rfl⟩) hHeld ?_ ?_
    rotate_left
    · simp only [Act.put, List.setIfInBounds_toArray, List.set_cons_zero, List.set_cons_succ, i64_w, i32_w]
      rfl
    refine take_ (i := 17) (N := (some 44)) (v := ?_) (a' := ?_) #[true, true, true, true, true, true, true, true, true, true, true, true, true, true, true, true, true, true, false, false, false, false, false] rfl rfl (take_ofW HT_.out HW_.out (by kernel_rfl)) (fun _ _ _ h => h) (Or.inl ⟨by rfl, ?_⟩) hHeld ?_ ?_
    rotate_left
    · rintro w' _
      go_simp
      with_reducible rfl
    rotate_left
    · simp only [Act.put, List.setIfInBounds_toArray, List.set_cons_zero, List.set_cons_succ, i64_w, i32_w]
      rfl
    refine take_ (i := 18) (N := (some 45)) (v := ?_) (a' := ?_) #[true, true, true, true, true, true, true, true, true, true, true, true, true, true, true, true, true, true, true, false, false, false, false] rfl rfl (take_ofW HT_.out HW_.out (by kernel_rfl)) (fun _ _ _ h => h) (Or.inl ⟨by rfl, ?_⟩) hHeld ?_ ?_
    rotate_left
    · rintro w' _
      go_simp
      with_reducible rfl
    rotate_left
    · simp only [Act.put, List.setIfInBounds_toArray, List.set_cons_zero, List.set_cons_succ, i64_w, i32_w]
      rfl
    refine take_ (i := 19) (N := (some 46)) (v := ?_) (a' := ?_) #[true, true, true, true, true, true, true, true, true, true, true, true, true, true, true, true, true, true, true, true, false, false, false] rfl rfl (take_ofW HT_.out HW_.out (by kernel_rfl)) (fun _ _ _ h => h) (Or.inl ⟨by rfl, ?_⟩) hHeld ?_ ?_
    rotate_left
    · rintro w' _
      go_simp
      with_reducible rfl
    rotate_left
    · simp only [Act.put, List.setIfInBounds_toArray, List.set_cons_zero, List.set_cons_succ, i64_w, i32_w]
      rfl
    refine one_ (i := 20) (N := (some 47)) #[true, true, true, true, true, true, true, true, true, true, true, true, true, true, true, true, true, true, true, true, true, false, false] rfl rfl (one_of HT_.out (by kernel_rfl)) (by decide) (fun K hK => ?_)
    refine goes_ Try.func34 (by kernel_rfl) rfl #[] (by rfl) rfl rfl (by first | rfl | (simp only [List.map_toArray, List.map_cons, List.map_nil]; try rfl)) ?_
    (with_reducible refine (awake_n _).mono ?_)
    rintro e_ w_ ⟨rfl, hb⟩
    have n_ := Aside0.mk (below_step (by repeat (first | exact HB.out | apply below_drew | apply below_alloc | apply pw_below_drewN)) hb)
    clear HB hb
    have HB := n_
    clear n_
    refine ⟨_, rfl, ?_⟩
    refine hK.out _ _ trivial (fun hHeld => ?_)
    clear hK K
    refine norm_ (a' := ?_) ?_ ?_
    rotate_left
    · show Act.put _ (some 47) _ = _
      simp only [Act.put, List.setIfInBounds_toArray, List.set_cons_zero, List.set_cons_succ, i64_w, i32_w]
      rfl
    refine take_ (i := 21) (N := (some 48)) (v := ?_) (a' := ?_) #[true, true, true, true, true, true, true, true, true, true, true, true, true, true, true, true, true, true, true, true, true, true, false] rfl rfl (take_ofW HT_.out HW_.out (by kernel_rfl)) (fun _ _ _ h => h) (Or.inl ⟨by rfl, ?_⟩) hHeld ?_ ?_
    rotate_left
    · rintro w' _
      go_simp
      with_reducible rfl
    rotate_left
    · simp only [Act.put, List.setIfInBounds_toArray, List.set_cons_zero, List.set_cons_succ, i64_w, i32_w]
      rfl
    refine take_ (i := 22) (N := (some 2)) (v := ?_) (a' := ?_) #[true, true, true, true, true, true, true, true, true, true, true, true, true, true, true, true, true, true, true, true, true, true, true] rfl rfl (take_ofW HT_.out HW_.out (by kernel_rfl)) (fun _ _ _ h => h) (Or.inl ⟨by rfl, ?_⟩) hHeld ?_ ?_
    rotate_left
    · rintro w' _
      go_simp
      with_reducible rfl
    rotate_left
    · simp only [Act.put, List.setIfInBounds_toArray, List.set_cons_zero, List.set_cons_succ, i64_w, i32_w]
      rfl
    refine done_ (done_of HT_.out (by kernel_rfl)) ?_
    go_wp2
    go_ret
    exact ⟨rfl, HB.out⟩
end Go.Proofs.Ytedgfhnjmlefnaa.Pure
