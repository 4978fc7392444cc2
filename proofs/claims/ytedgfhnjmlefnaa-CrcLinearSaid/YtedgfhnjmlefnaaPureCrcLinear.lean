/- Proved: carillonlaw05.CrcLinear returns true: with a beginning of 0 the sum of bytes xor others of one length is the xor of the two sums. Conditions: none. -/
import Derived.Test.YtedgfhnjmlefnaaPCrcx4
import Derived.Test.YtedgfhnjmlefnaaX1Pure
namespace Go.Proofs.Ytedgfhnjmlefnaa.Pure
open Go.RowKit Go.Proofs.Ytedgfhnjmlefnaa.PCrc Go.Proofs.YtedgfhnjmlefnaaW.PrintWords Go.Proofs.YtedgfhnjmlefnaaW.PrintLast Go.Proofs.YtedgfhnjmlefnaaW.PrintMore
set_option linter.unusedVariables false
set_option linter.unusedSimpArgs false
theorem n_and32 (a b : Nat) (ha : a < 4294967296) (hb : b < 4294967296) : Go.bits .and .u32 (a : Int) (b : Int) = ((a &&& b : Nat) : Int) := by
  have := x_and32 (BitVec.ofNat 32 a) (BitVec.ofNat 32 b)
  simpa [BitVec.toNat_ofNat, Nat.mod_eq_of_lt ha, Nat.mod_eq_of_lt hb] using this
theorem n_xor32 (a b : Nat) (ha : a < 4294967296) (hb : b < 4294967296) : Go.bits .xor .u32 (a : Int) (b : Int) = ((a ^^^ b : Nat) : Int) := by
  have := x_xor32 (BitVec.ofNat 32 a) (BitVec.ofNat 32 b)
  simpa [BitVec.toNat_ofNat, Nat.mod_eq_of_lt ha, Nat.mod_eq_of_lt hb] using this
theorem n_and64 (a b : Nat) (ha : a < 18446744073709551616) (hb : b < 18446744073709551616) : Go.bits .and .u64 (a : Int) (b : Int) = ((a &&& b : Nat) : Int) := by
  have := x_and64 (BitVec.ofNat 64 a) (BitVec.ofNat 64 b)
  simpa [BitVec.toNat_ofNat, Nat.mod_eq_of_lt ha, Nat.mod_eq_of_lt hb] using this
theorem n_xor64 (a b : Nat) (ha : a < 18446744073709551616) (hb : b < 18446744073709551616) : Go.bits .xor .u64 (a : Int) (b : Int) = ((a ^^^ b : Nat) : Int) := by
  have := x_xor64 (BitVec.ofNat 64 a) (BitVec.ofNat 64 b)
  simpa [BitVec.toNat_ofNat, Nat.mod_eq_of_lt ha, Nat.mod_eq_of_lt hb] using this
theorem tb_toNat (s k : Nat) : s / 2 ^ k &&& 1 = (s.testBit k).toNat := by
  rw [Nat.and_one_is_mod, Nat.testBit_eq_decide_div_mod_eq]
  rcases Nat.mod_two_eq_zero_or_one (s / 2 ^ k) with h | h <;> simp [h]
theorem xor_toNat (a b : Bool) : a.toNat ^^^ b.toNat = (a != b).toNat := by cases a <;> cases b <;> rfl
theorem toNat_is_one (a : Bool) : a.toNat = 1 ↔ a = true := by cases a <;> simp
theorem int_div_pow (s k : Nat) : (s : Int) / 2 ^ k = ((s / 2 ^ k : Nat) : Int) := by simp
/-- One bit more. -/
def cstep (n p s : Nat) (b : Bool) : Nat := if (s.testBit (n - 1) != b) = true then (2 * s % 2 ^ n) ^^^ p else 2 * s % 2 ^ n
theorem cstep_lt {n p s : Nat} {b : Bool} (hp : p < 2 ^ n) : cstep n p s b < 2 ^ n := by
  unfold cstep
  have h := Nat.mod_lt (2 * s) (Nat.two_pow_pos n)
  split
  · exact Nat.xor_lt_two_pow h hp
  · exact h
/-- Bit j of bytes, the highest of each first. -/
def cbit (l : List Int) (j : Nat) : Bool := ((l.getD (j / 8) 0).toNat).testBit (7 - j % 8)
def crun (n p : Nat) (bs : List Bool) (s : Nat) : Nat := bs.foldl (cstep n p) s
theorem crun_lt {n p : Nat} (hp : p < 2 ^ n) : ∀ (bs : List Bool) (s : Nat), s < 2 ^ n → crun n p bs s < 2 ^ n
  | [], _, h => h
  | b :: bs, s, _ => crun_lt hp bs _ (cstep_lt hp)
def cbs (l : List Int) : List Bool := (List.range (l.length * 8)).map (cbit l)
theorem getD_b {l : List Int} (hl : IsB l) (i : Nat) : 0 ≤ l.getD i 0 ∧ l.getD i 0 < 256 := by
  rw [List.getD_eq_getElem?_getD]
  by_cases h : i < l.length
  · rw [List.getElem?_eq_getElem h]; exact hl.get h
  · rw [List.getElem?_eq_none (by omega)]; exact ⟨by simp, by simp⟩
theorem bitAt_is {l : List Int} (hl : IsB l) (j : Nat) : crc_bitAt l j = ((cbit l j).toNat : Int) := by
  unfold crc_bitAt cbit
  have hb := getD_b hl (j / 8)
  obtain ⟨c, hc⟩ : ∃ c : Nat, l.getD (j / 8) 0 = (c : Int) := ⟨(l.getD (j / 8) 0).toNat, by omega⟩
  rw [hc] at hb ⊢
  rw [Int.emod_eq_of_lt (by omega) (by omega), int_div_pow, Int.toNat_natCast]
  have h1 : c / 2 ^ (7 - j % 8) < 4294967296 := Nat.lt_of_le_of_lt (Nat.div_le_self _ _) (by omega)
  have := n_and32 (c / 2 ^ (7 - j % 8)) 1 h1 (by omega)
  rw [tb_toNat] at this
  exact this
theorem pow_le32 {n : Nat} (h : n ≤ 32) : 2 ^ n ≤ 4294967296 := by
  have : 2 ^ n ≤ 2 ^ 32 := Nat.pow_le_pow_right (by omega) h
  simpa using this
theorem step_is {n p s : Nat} (b : Bool) (hn : 8 ≤ n) (hn' : n ≤ 32) (hp : p < 2 ^ n) (hs : s < 2 ^ n) : crc_step (p : Int) ((2 ^ n - 1 : Nat) : Int) (n - 1) (s : Int) (b.toNat : Int) = ((cstep n p s b : Nat) : Int) := by
  have h32 := pow_le32 hn'
  have h1 : s / 2 ^ (n - 1) < 4294967296 := Nat.lt_of_le_of_lt (Nat.div_le_self _ _) (by omega)
  have e1 : Go.bits .xor .u32 (Go.bits .and .u32 ((s : Int) / 2 ^ (n - 1)) 1) (b.toNat : Int) = ((s.testBit (n - 1) != b).toNat : Int) := by
    rw [int_div_pow]
    have := n_and32 (s / 2 ^ (n - 1)) 1 h1 (by omega)
    rw [tb_toNat] at this
    rw [show ((1 : Nat) : Int) = 1 from rfl] at this
    rw [this, n_xor32 _ _ (by have := Bool.toNat_lt (s.testBit (n - 1)); omega) (by have := Bool.toNat_lt b; omega), xor_toNat]
  have e2 : (s : Int) * 2 % 4294967296 = ((2 * s % 4294967296 : Nat) : Int) := by omega
  have e3 : Go.bits .and .u32 ((s : Int) * 2 % 4294967296) ((2 ^ n - 1 : Nat) : Int) = ((2 * s % 2 ^ n : Nat) : Int) := by
    rw [e2, n_and32 _ _ (Nat.mod_lt _ (by omega)) (by omega), Nat.and_two_pow_sub_one_eq_mod]
    congr 1
    rw [show (4294967296 : Nat) = 2 ^ 32 from rfl]
    exact Nat.mod_mod_of_dvd _ (Nat.pow_dvd_pow 2 hn')
  unfold crc_step cstep
  rw [e1, e3]
  have h2 : 2 * s % 2 ^ n < 2 ^ n := Nat.mod_lt _ (Nat.two_pow_pos n)
  cases hb : (s.testBit (n - 1) != b)
  · rfl
  · rw [if_pos (show (((true.toNat : Nat) : Int) == 1) = true from rfl), if_pos rfl]
    exact n_xor32 _ _ (by omega) (by omega)
theorem sum_is {n p s : Nat} {l : List Int} (hl : IsB l) (hn : 8 ≤ n) (hn' : n ≤ 32) (hp : p < 2 ^ n) (hs : s < 2 ^ n) : crc_sumOf (p : Int) ((2 ^ n - 1 : Nat) : Int) (n - 1) (s : Int) l = ((crun n p (cbs l) s : Nat) : Int) := by
  have main : ∀ (js : List Nat) (s : Nat), s < 2 ^ n → (js.map (crc_bitAt l)).foldl (crc_step (p : Int) ((2 ^ n - 1 : Nat) : Int) (n - 1)) (s : Int) = ((crun n p (js.map (cbit l)) s : Nat) : Int) := by
    intro js
    induction js with
    | nil => intro s _; rfl
    | cons j js ih =>
      intro s hs
      rw [List.map_cons, List.foldl_cons, bitAt_is hl, step_is _ hn hn' hp hs, ih _ (cstep_lt hp)]
      rfl
  exact main _ s hs
theorem mask_is {n : Nat} (hn : n ≤ 32) : IntKind.u64.wrap ((shl .u64 1 (n : Int)) - 1) = ((2 ^ n - 1 : Nat) : Int) := by
  have h32 := pow_le32 hn
  have h1 : 1 ≤ 2 ^ n := Nat.one_le_two_pow
  have e : shl .u64 1 (n : Int) = ((2 ^ n : Nat) : Int) := by
    unfold shl
    rw [Int.toNat_natCast, show min n IntKind.u64.bits = n from Nat.min_eq_left (by show n ≤ 64; omega), x_wrap_u64', Int.one_mul]
    have e2 : (2 : Int) ^ n = ((2 ^ n : Nat) : Int) := by simp
    rw [e2]
    omega
  rw [e, x_wrap_u64']
  omega
theorem polysum_is {n p s : Nat} {l : List Int} (hl : IsB l) (hlen : l.length ≤ 9223372036854775806) (hn : 8 ≤ n) (hn' : n ≤ 32) (hp : p < 2 ^ n) (hs : s < 2 ^ n) : crc_poly_sum.f (n : Int) (p : Int) (s : Int) l = some ((crun n p (cbs l) s : Nat) : Int) := by
  have h32 := pow_le32 hn'
  have h1 : 1 ≤ 2 ^ n := Nat.one_le_two_pow
  unfold crc_poly_sum.f crc_below_uint64.f
  rw [if_pos (by omega), mask_is hn']
  show (if _ then _ else _) = _
  rw [if_pos ⟨by omega, by omega, hlen⟩]
  have e : IntKind.u32.wrap ((2 ^ n - 1 : Nat) : Int) = ((2 ^ n - 1 : Nat) : Int) := by rw [IntKind.wrap_u32]; omega
  rw [e, Int.toNat_natCast, sum_is hl hn hn' hp hs]
/-- The sum of whole frames. -/
def cW (l : List Int) : Nat := crun 24 6122955 (cbs l) 16702650
theorem cW_lt (l : List Int) : cW l < 16777216 := crun_lt (n := 24) (by decide) _ _ (by decide)
theorem Whole_is {l : List Int} (hl : IsB l) (hlen : l.length ≤ 9223372036854775806) : crc_Whole.f l = some ((cW l : Nat) : Int) := by
  unfold crc_Whole.f crc_whole.f
  refine bind_to rfl ?_
  refine bind_to (polysum_is (n := 24) (p := 6122955) (s := 16702650) hl hlen (by decide) (by decide) (by decide) (by decide)) ?_
  rfl
/-- A sum's three bytes. -/
def be3 (s : Nat) : List Int := [((s / 65536 % 256 : Nat) : Int), ((s / 256 % 256 : Nat) : Int), ((s % 256 : Nat) : Int)]
theorem be3_b (s : Nat) : IsB (be3 s) := by
  intro x hx
  simp only [be3, List.mem_cons, List.not_mem_nil, or_false] at hx
  rcases hx with rfl | rfl | rfl <;> omega
theorem be3_len (s : Nat) : (be3 s).length = 3 := rfl
theorem shr8 (s : Nat) (i : Nat) (hi : i ≤ 32) : (shr .u32 (s : Int) (i : Int)) = ((s / 2 ^ i : Nat) : Int) := by
  unfold shr
  rw [Int.toNat_natCast, show min i IntKind.u32.bits = i from Nat.min_eq_left (by show i ≤ 32; exact hi), int_div_pow]
theorem Fix_is {l : List Int} (hl : IsB l) (hlen : l.length ≤ 140737488351250) (k : Nat) (hk : 4 ≤ k) : crc_Fix.f k l = some (l ++ be3 (cW l)) := by
  obtain ⟨k, rfl⟩ : ∃ m, k = m + 4 := ⟨k - 4, by omega⟩
  have e0 : wrap64 ((l.length : Int) + 3) = (l.length : Int) + 3 := x_w64 (by omega) (by omega)
  unfold crc_Fix.f
  refine bind_to (Whole_is hl (by omega)) ?_
  rw [e0, if_pos (by omega), if_pos (by omega)]
  refine bind_to rfl ?_
  rw [List.replicate_zero, if_pos (by simp; omega), List.nil_append]
  have hw := cW_lt l
  generalize cW l = s at hw ⊢
  have e2 : shr .u32 (s : Int) (wrap64 (8 * 2)) % 256 = ((s / 65536 % 256 : Nat) : Int) := by
    rw [show wrap64 (8 * 2) = ((16 : Nat) : Int) by unfold wrap64; omega, shr8 _ _ (by omega)]; omega
  have e1 : shr .u32 (s : Int) (wrap64 (8 * 1)) % 256 = ((s / 256 % 256 : Nat) : Int) := by
    rw [show wrap64 (8 * 1) = ((8 : Nat) : Int) by unfold wrap64; omega, shr8 _ _ (by omega)]; omega
  have e0' : shr .u32 (s : Int) (wrap64 (8 * 0)) % 256 = ((s % 256 : Nat) : Int) := by
    rw [show wrap64 (8 * 0) = ((0 : Nat) : Int) by unfold wrap64; omega, shr8 _ _ (by omega)]; omega
  have g2 : 0 ≤ wrap64 (8 * 2) := by unfold wrap64; omega
  have g1 : 0 ≤ wrap64 (8 * 1) := by unfold wrap64; omega
  have g0 : 0 ≤ wrap64 (8 * 0) := by unfold wrap64; omega
  rw [crc_Fix.l0, if_pos (by decide), if_pos g2, if_pos (by omega), e2, show wrap64 (2 - 1) = 1 by unfold wrap64; omega]
  rw [crc_Fix.l0, if_pos (by decide), if_pos g1, if_pos (by simp; omega), e1, show wrap64 (1 - 1) = 0 by unfold wrap64; omega]
  rw [crc_Fix.l0, if_pos (by decide), if_pos g0, if_pos (by simp; omega), e0', show wrap64 (0 - 1) = -1 by unfold wrap64; omega]
  rw [crc_Fix.l0, if_neg (by decide)]
  simp [be3]
def val3 (t : List Int) : Int := crc_gath t
theorem or_shift (a c : Nat) (ha : a < 16777216) (hc : c < 256) : Go.bits .or .u32 (((a : Int) * 256) % 4294967296) ((c : Int) % 4294967296) = ((a * 256 + c : Nat) : Int) := by
  have e1 : ((a : Int) * 256) % 4294967296 = ((a * 256 : Nat) : Int) := by omega
  have e2 : (c : Int) % 4294967296 = (c : Int) := by omega
  have := x_or32 (BitVec.ofNat 32 (a * 256)) (BitVec.ofNat 32 c)
  rw [e1, e2]
  rw [BitVec.toNat_or, BitVec.toNat_ofNat, BitVec.toNat_ofNat, Nat.mod_eq_of_lt (by omega), Nat.mod_eq_of_lt (by omega)] at this
  rw [this]
  congr 1
  rw [Nat.mul_comm, show 256 = 2 ^ 8 from rfl]
  exact (Nat.two_pow_add_eq_or_of_lt (by omega) _).symm
theorem val3_is {a b c : Nat} (ha : a < 256) (hb : b < 256) (hc : c < 256) : val3 [(a : Int), (b : Int), (c : Int)] = ((a * 65536 + b * 256 + c : Nat) : Int) := by
  unfold val3 crc_gath
  rw [List.foldl_cons, List.foldl_cons, List.foldl_cons, List.foldl_nil]
  rw [show (0 : Int) = ((0 : Nat) : Int) from rfl, or_shift 0 a (by omega) ha, or_shift _ b (by omega) hb, or_shift _ c (by omega) hc]
  omega
theorem be3_of {t : List Int} (ht : IsB t) (h3 : t.length = 3) : ∃ s, s < 16777216 ∧ t = be3 s ∧ val3 t = (s : Int) := by
  match t, h3 with
  | [x, y, z], _ =>
    have hx := ht x (by simp)
    have hy := ht y (by simp)
    have hz := ht z (by simp)
    obtain ⟨a, rfl⟩ : ∃ a : Nat, x = (a : Int) := ⟨x.toNat, by omega⟩
    obtain ⟨b, rfl⟩ : ∃ a : Nat, y = (a : Int) := ⟨y.toNat, by omega⟩
    obtain ⟨c, rfl⟩ : ∃ a : Nat, z = (a : Int) := ⟨z.toNat, by omega⟩
    refine ⟨a * 65536 + b * 256 + c, by omega, ?_, val3_is (by omega) (by omega) (by omega)⟩
    unfold be3
    rw [show (a * 65536 + b * 256 + c) / 65536 % 256 = a by omega, show (a * 65536 + b * 256 + c) / 256 % 256 = b by omega, show (a * 65536 + b * 256 + c) % 256 = c by omega]
theorem be3_inj {s t : Nat} (hs : s < 16777216) (ht : t < 16777216) (h : be3 s = be3 t) : s = t := by
  unfold be3 at h
  simp only [List.cons.injEq, and_true] at h
  omega
/-- Is the sum behind that of the bytes ahead? -/
def isGood (l : List Int) : Prop := 3 ≤ l.length ∧ l.drop (l.length - 3) = be3 (cW (l.take (l.length - 3)))
instance (l : List Int) : Decidable (isGood l) := inferInstanceAs (Decidable (_ ∧ _))
theorem Good_is {l : List Int} (hl : IsB l) (hlen : l.length ≤ 9223372036854775806) : crc_Good.f l = some (decide (isGood l)) := by
  unfold crc_Good.f
  rw [if_pos hlen]
  by_cases h : l.length < 3
  · rw [if_pos (by omega)]
    congr 1
    exact (decide_eq_false (fun h' => by have := h'.1; omega)).symm
  · rw [if_neg (by omega)]
    have e3 : (l.drop (l.length - 3)).length = 3 := by rw [List.length_drop]; omega
    obtain ⟨s, hs, e4, e5⟩ := be3_of (IsB.drop hl _) e3
    have hw := cW_lt (l.take (l.length - 3))
    refine bind_to (Whole_is (IsB.take hl _) (by rw [List.length_take]; omega)) ?_
    have e6 := e5
    unfold val3 at e6
    rw [e6]
    congr 1
    rw [Bool.eq_iff_iff, beq_iff_eq, decide_eq_true_eq]
    constructor
    · intro h'
      refine ⟨by omega, ?_⟩
      rw [e4, show s = cW (l.take (l.length - 3)) by omega]
    · intro h'
      have := h'.2
      rw [e4] at this
      rw [be3_inj hs hw this]
theorem good_fix (l : List Int) : isGood (l ++ be3 (cW l)) := by
  unfold isGood
  rw [List.length_append, be3_len, Nat.add_sub_cancel, List.drop_left, List.take_left]
  exact ⟨by omega, rfl⟩
theorem good_iff (l : List Int) (h3 : 3 ≤ l.length) : isGood l ↔ l.take (l.length - 3) ++ be3 (cW (l.take (l.length - 3))) = l := by
  unfold isGood
  constructor
  · rintro ⟨_, h⟩
    rw [← h, List.take_append_drop]
  · intro h
    refine ⟨h3, ?_⟩
    have := List.take_append_drop (l.length - 3) l
    exact List.append_cancel_left (this.trans h.symm)
theorem awake_is (k : Nat) (hk : 4 ≤ k) : carillonlaw05_awake.f k = some true := by
  have hb : IsB [1, 2, 3] := by
    intro x hx
    simp only [List.mem_cons, List.not_mem_nil, or_false] at hx
    rcases hx with rfl | rfl | rfl <;> omega
  unfold carillonlaw05_awake.f
  refine bind_to (Fix_is hb (by simp) k hk) ?_
  refine bind_to (Good_is (IsB.append hb (be3_b _)) (by simp [be3_len])) ?_
  rw [decide_eq_true (good_fix _)]
theorem wrap64u (s : Nat) (h : s < 18446744073709551616) : IntKind.u64.wrap (s : Int) = (s : Int) := by rw [x_wrap_u64']; omega
theorem andNot_is {a n : Nat} (ha : a < 4294967296) (hn : n ≤ 32) : Go.bits .andNot .u32 (a : Int) ((2 ^ n - 1 : Nat) : Int) = 0 ↔ a < 2 ^ n := by
  have h32 := pow_le32 hn
  have e : Go.bits .andNot .u32 (a : Int) ((2 ^ n - 1 : Nat) : Int) = ((BitVec.ofNat 32 a &&& ~~~(BitVec.ofNat 32 (2 ^ n - 1))).toNat : Int) := by
    have ea : (BitVec.ofInt 32 (a : Int)) = BitVec.ofNat 32 a := BitVec.ofInt_natCast _ _
    have em : (BitVec.ofInt 32 ((2 ^ n - 1 : Nat) : Int)) = BitVec.ofNat 32 (2 ^ n - 1) := BitVec.ofInt_natCast _ _
    unfold Go.bits
    simp only [IntKind.bits, ea, em]
    exact x_wrap_u32 _
  rw [e]
  have emask : BitVec.ofNat 32 (2 ^ n - 1) = BitVec.ofNat 32 (2 ^ n - 1) := rfl
  constructor
  · intro h
    have h0 : BitVec.ofNat 32 a &&& ~~~(BitVec.ofNat 32 (2 ^ n - 1)) = 0#32 := by
      apply BitVec.eq_of_toNat_eq
      simpa using h
    have h1 : BitVec.ofNat 32 a = BitVec.ofNat 32 a &&& BitVec.ofNat 32 (2 ^ n - 1) := by
      apply BitVec.eq_of_getLsbD_eq
      intro i hi
      have := congrArg (fun b => b.getLsbD i) h0
      simp only [BitVec.getLsbD_and, BitVec.getLsbD_not, hi, decide_true, Bool.true_and, BitVec.getLsbD_zero] at this ⊢
      generalize (BitVec.ofNat 32 a).getLsbD i = x at this ⊢
      generalize (BitVec.ofNat 32 (2 ^ n - 1)).getLsbD i = y at this ⊢
      cases x <;> cases y <;> simp_all
    have h2 := congrArg BitVec.toNat h1
    rw [BitVec.toNat_and, BitVec.toNat_ofNat, BitVec.toNat_ofNat, Nat.mod_eq_of_lt (by omega), Nat.mod_eq_of_lt (by omega), Nat.and_two_pow_sub_one_eq_mod] at h2
    rw [h2]
    exact Nat.mod_lt _ (Nat.two_pow_pos n)
  · intro h
    have h1 : BitVec.ofNat 32 a &&& BitVec.ofNat 32 (2 ^ n - 1) = BitVec.ofNat 32 a := by
      apply BitVec.eq_of_toNat_eq
      rw [BitVec.toNat_and, BitVec.toNat_ofNat, BitVec.toNat_ofNat, Nat.mod_eq_of_lt (by omega), Nat.mod_eq_of_lt (by omega), Nat.and_two_pow_sub_one_eq_mod, Nat.mod_eq_of_lt h]
    have h0 : BitVec.ofNat 32 a &&& ~~~(BitVec.ofNat 32 (2 ^ n - 1)) = 0#32 := by
      rw [← h1]
      apply BitVec.eq_of_getLsbD_eq
      intro i hi
      simp only [BitVec.getLsbD_and, BitVec.getLsbD_not, hi, decide_true, Bool.true_and, BitVec.getLsbD_zero]
      generalize (BitVec.ofNat 32 a).getLsbD i = x
      generalize (BitVec.ofNat 32 (2 ^ n - 1)).getLsbD i = y
      cases x <;> cases y <;> rfl
    rw [h0]
    rfl
/-- May these be summed with? -/
def canSum (w : Int) (p s : Int) : Prop := 8 ≤ w ∧ w ≤ 32 ∧ p < 2 ^ w.toNat ∧ s < 2 ^ w.toNat
instance (w p s : Int) : Decidable (canSum w p s) := inferInstanceAs (Decidable (_ ∧ _))
theorem below_is {n : Nat} (hn : n ≤ 32) : crc_below_uint64.f (n : Int) = some ((2 ^ n - 1 : Nat) : Int) := by
  unfold crc_below_uint64.f
  rw [if_pos (by omega), mask_is hn]
theorem lt_pow_cast (a n : Nat) : ((a : Int) < 2 ^ n) ↔ a < 2 ^ n := by
  have e2 : (2 : Int) ^ n = ((2 ^ n : Nat) : Int) := by simp
  rw [e2]
  omega
theorem fits_is (w p s : Int) (hp : 0 ≤ p ∧ p < 4294967296) (hs : 0 ≤ s ∧ s < 4294967296) : crc_poly_fits.f w p s = some (decide (canSum w p s)) := by
  obtain ⟨p, rfl⟩ : ∃ a : Nat, p = (a : Int) := ⟨p.toNat, by omega⟩
  obtain ⟨s, rfl⟩ : ∃ a : Nat, s = (a : Int) := ⟨s.toNat, by omega⟩
  unfold crc_poly_fits.f
  by_cases h8 : w < 8
  · rw [if_pos h8, decide_eq_false (fun h => by have := h.1; omega)]
  · rw [if_neg h8]
    by_cases h32 : w > 32
    · rw [if_pos h32, decide_eq_false (fun h => by have := h.2.1; omega)]
    · rw [if_neg h32]
      obtain ⟨n, rfl⟩ : ∃ a : Nat, w = (a : Int) := ⟨w.toNat, by omega⟩
      refine bind_to (below_is (by omega)) ?_
      have hle := pow_le32 (show n ≤ 32 by omega)
      have e : ((2 ^ n - 1 : Nat) : Int) % 4294967296 = ((2 ^ n - 1 : Nat) : Int) := by
        have := Nat.two_pow_pos n
        omega
      rw [e]
      have a1 := andNot_is (a := p) (n := n) (by omega) (by omega)
      have a2 := andNot_is (a := s) (n := n) (by omega) (by omega)
      by_cases h : Go.bits .andNot .u32 (p : Int) ((2 ^ n - 1 : Nat) : Int) = 0
      · rw [if_pos h]
        have hp := a1.1 h
        congr 1
        rw [Bool.eq_iff_iff, beq_iff_eq, a2, decide_eq_true_eq]
        unfold canSum
        rw [Int.toNat_natCast, lt_pow_cast, lt_pow_cast]
        constructor
        · intro h'; exact ⟨by omega, by omega, hp, h'⟩
        · intro h'; exact h'.2.2.2
      · rw [if_neg h, decide_eq_false]
        rintro ⟨_, _, h', _⟩
        rw [Int.toNat_natCast, lt_pow_cast] at h'
        exact h (a1.2 h')
theorem Of_is {l : List Int} (hl : IsB l) (hlen : l.length ≤ 9223372036854775806) (w p s : Int) (hp : 0 ≤ p ∧ p < 4294967296) (hs : 0 ≤ s ∧ s < 4294967296) :
    crc_Of.f l w p s = some (if canSum w p s then ((crun w.toNat p.toNat (cbs l) s.toNat : Nat) : Int) else 0, if canSum w p s then 0 else 1) := by
  unfold crc_Of.f
  refine bind_to (fits_is w p s hp hs) ?_
  by_cases h : canSum w p s
  · rw [decide_eq_true h, if_pos rfl, if_pos h, if_pos h]
    obtain ⟨h1, h2, h3, h4⟩ := h
    obtain ⟨p, rfl⟩ : ∃ a : Nat, p = (a : Int) := ⟨p.toNat, by omega⟩
    obtain ⟨s, rfl⟩ : ∃ a : Nat, s = (a : Int) := ⟨s.toNat, by omega⟩
    obtain ⟨n, rfl⟩ : ∃ a : Nat, w = (a : Int) := ⟨w.toNat, by omega⟩
    rw [Int.toNat_natCast, lt_pow_cast] at h3 h4
    exact bind_to (polysum_is hl hlen (by omega) (by omega) h3 h4) rfl
  · rw [decide_eq_false h, if_neg h, if_neg h, if_neg (by decide)]
theorem Head_is {l : List Int} (hl : IsB l) (hlen : l.length ≤ 9223372036854775806) : crc_Head.f l = some ((crun 11 901 (cbs l) 26 : Nat) : Int) := by
  unfold crc_Head.f crc_head.f
  refine bind_to rfl ?_
  refine bind_to (polysum_is (n := 11) (p := 901) (s := 26) hl hlen (by decide) (by decide) (by decide) (by decide)) ?_
  rfl
theorem dbl_xor (n s t : Nat) : 2 * (s ^^^ t) % 2 ^ n = (2 * s % 2 ^ n) ^^^ (2 * t % 2 ^ n) := by
  have e : ∀ x, 2 * x = x <<< 1 := fun x => by rw [Nat.shiftLeft_eq]; omega
  rw [e, e, e, Nat.shiftLeft_xor_distrib, Nat.xor_mod_two_pow]
theorem xor_bits {a b : Nat} (h : ∀ i, a.testBit i = b.testBit i) : a = b := Nat.eq_of_testBit_eq h
theorem cstep_xor (n p s t : Nat) (b c : Bool) : cstep n p (s ^^^ t) (b != c) = cstep n p s b ^^^ cstep n p t c := by
  unfold cstep
  rw [dbl_xor, Nat.testBit_xor]
  generalize 2 * s % 2 ^ n = A
  generalize 2 * t % 2 ^ n = B
  generalize s.testBit (n - 1) = x
  generalize t.testBit (n - 1) = y
  have e1 : A ^^^ B ^^^ p = (A ^^^ p) ^^^ B := by apply xor_bits; intro i; simp only [Nat.testBit_xor]; cases A.testBit i <;> cases B.testBit i <;> cases p.testBit i <;> rfl
  have e2 : A ^^^ B ^^^ p = A ^^^ (B ^^^ p) := by apply xor_bits; intro i; simp only [Nat.testBit_xor]; cases A.testBit i <;> cases B.testBit i <;> cases p.testBit i <;> rfl
  have e3 : A ^^^ B = (A ^^^ p) ^^^ (B ^^^ p) := by apply xor_bits; intro i; simp only [Nat.testBit_xor]; cases A.testBit i <;> cases B.testBit i <;> cases p.testBit i <;> rfl
  cases x <;> cases y <;> cases b <;> cases c <;> first | rfl | exact e1 | exact e2 | exact e3
theorem crun_xor (n p : Nat) (f g h : Nat → Bool) : ∀ (js : List Nat) (s t : Nat), (∀ j ∈ js, h j = (f j != g j)) → crun n p (js.map h) (s ^^^ t) = crun n p (js.map f) s ^^^ crun n p (js.map g) t := by
  intro js
  induction js with
  | nil => intro s t _; rfl
  | cons j js ih =>
    intro s t hj
    have e := ih (cstep n p s (f j)) (cstep n p t (g j)) (fun i hi => hj i (List.mem_cons_of_mem _ hi))
    rw [← cstep_xor, ← hj j (by simp)] at e
    exact e
def bxor (x y : Int) : Int := Go.bits .xor .u8 x y
theorem bxor_is {x y : Int} (hx : 0 ≤ x ∧ x < 256) (hy : 0 ≤ y ∧ y < 256) : bxor x y = ((x.toNat ^^^ y.toNat : Nat) : Int) ∧ 0 ≤ bxor x y ∧ bxor x y < 256 := by
  have e : bxor x y = ((x.toNat ^^^ y.toNat : Nat) : Int) := by
    have := x_xor8 (BitVec.ofNat 8 x.toNat) (BitVec.ofNat 8 y.toNat)
    simp only [BitVec.toNat_xor, BitVec.toNat_ofNat, Nat.mod_eq_of_lt (show x.toNat < 2 ^ 8 by omega), Nat.mod_eq_of_lt (show y.toNat < 2 ^ 8 by omega)] at this
    rw [show ((x.toNat : Nat) : Int) = x by omega, show ((y.toNat : Nat) : Int) = y by omega] at this
    exact this
  have hlt : x.toNat ^^^ y.toNat < 2 ^ 8 := Nat.xor_lt_two_pow (by omega) (by omega)
  rw [e]
  exact ⟨rfl, by omega, by omega⟩
theorem zip_b {a b : List Int} (ha : IsB a) (hb : IsB b) : IsB (List.zipWith bxor a b) := by
  intro z hz
  rw [List.mem_iff_getElem] at hz
  obtain ⟨i, hi, rfl⟩ := hz
  rw [List.length_zipWith] at hi
  rw [List.getElem_zipWith]
  exact (bxor_is (ha.get (by omega)) (hb.get (by omega))).2
theorem cbit_zip {a b : List Int} (ha : IsB a) (hb : IsB b) (hl : a.length = b.length) (j : Nat) (hj : j < a.length * 8) : cbit (List.zipWith bxor a b) j = (cbit a j != cbit b j) := by
  unfold cbit
  have h1 : j / 8 < a.length := by omega
  have h2 : j / 8 < b.length := by omega
  have h3 : j / 8 < (List.zipWith bxor a b).length := by rw [List.length_zipWith]; omega
  simp only [List.getD_eq_getElem?_getD, List.getElem?_eq_getElem h1, List.getElem?_eq_getElem h2, List.getElem?_eq_getElem h3, Option.getD_some]
  rw [List.getElem_zipWith, (bxor_is (ha.get h1) (hb.get h2)).1, Int.toNat_natCast, Nat.testBit_xor]
theorem crun_zip {a b : List Int} (ha : IsB a) (hb : IsB b) (hl : a.length = b.length) (n p s t : Nat) : crun n p (cbs (List.zipWith bxor a b)) (s ^^^ t) = crun n p (cbs a) s ^^^ crun n p (cbs b) t := by
  unfold cbs
  rw [List.length_zipWith, show min a.length b.length = a.length by omega, ← hl]
  apply crun_xor
  intro j hj
  rw [List.mem_range] at hj
  exact cbit_zip ha hb hl j hj
theorem lin_j1 {a b : List Int} (ha : IsB a) (hb : IsB b) (hl : a.length = b.length) (hlen : a.length ≤ 140737488351250) (w p : Int) (hp : 0 ≤ p ∧ p < 4294967296) (k : Nat) (hk : 5 ≤ k) :
    carillonlaw05_CrcLinear.j1 (k + 1) a b w p (List.zipWith bxor a b) = some true := by
  have hlz : (List.zipWith bxor a b).length = a.length := by rw [List.length_zipWith]; omega
  rw [carillonlaw05_CrcLinear.j1]
  refine bind_to (Of_is ha (by omega) w p 0 hp (by omega)) ?_
  refine bind_to (Of_is hb (by omega) w p 0 hp (by omega)) ?_
  refine bind_to (Of_is (zip_b ha hb) (by omega) w p 0 hp (by omega)) ?_
  rw [if_pos rfl, if_pos rfl]
  by_cases h : canSum w p 0
  · have hw : w.toNat ≤ 32 := by have := h.2.1; omega
    have h32 := pow_le32 hw
    have hp' : p.toNat < 2 ^ w.toNat := by
      have h1 := h.2.2.1
      rw [show p = ((p.toNat : Nat) : Int) by omega, lt_pow_cast] at h1
      exact h1
    have h0 : (0 : Nat) < 2 ^ w.toNat := Nat.two_pow_pos _
    have l1 := crun_lt hp' (cbs a) 0 h0
    have l2 := crun_lt hp' (cbs b) 0 h0
    have e := crun_zip ha hb hl w.toNat p.toNat 0 0
    rw [Nat.xor_self] at e
    simp only [if_pos h]
    rw [if_pos trivial, show (0 : Int).toNat = 0 from rfl, n_xor32 _ _ (by omega) (by omega), e, if_pos rfl]
    exact bind_to (awake_is k (by omega)) rfl
  · simp only [if_neg h]
    rw [if_neg (by decide)]
    exact bind_to (awake_is k (by omega)) rfl
theorem lin_loop (a b : List Int) (w p : Int) (hb : b.length ≤ 9223372036854775806) : ∀ (rest pre bs : List Int) (k : Nat), rest.length = bs.length → b.drop pre.length = bs → pre.length + rest.length = b.length → rest.length + 7 ≤ k →
    (∀ k', 6 ≤ k' → carillonlaw05_CrcLinear.j1 k' a b w p (pre ++ List.zipWith bxor rest bs) = some true) → carillonlaw05_CrcLinear.l0 k a b w p (pre ++ rest) (pre.length : Int) = some true := by
  intro rest
  induction rest with
  | nil =>
    intro pre bs k hl hd hpl hk H
    obtain ⟨k, rfl⟩ : ∃ m, k = m + 1 := ⟨k - 1, by simp at hk; omega⟩
    have H := H k (by simp at hk; omega)
    rw [List.zipWith_nil_left] at H
    rw [carillonlaw05_CrcLinear.l0, if_neg (by rw [List.append_nil]; exact Int.lt_irrefl _)]
    exact H
  | cons x rest ih =>
    intro pre bs k hl hd hpl hk H
    obtain ⟨k, rfl⟩ : ∃ m, k = m + 1 := ⟨k - 1, by simp at hk; omega⟩
    cases bs with
    | nil => simp at hl
    | cons y bs =>
      have hlt : pre.length < b.length := by rw [← hpl, List.length_cons]; omega
      have e1 : rd (pre ++ x :: rest) (pre.length : Int) = x := by
        rw [rd_get _ _ (by rw [List.length_append, List.length_cons]; omega), List.getElem_append_right (Nat.le_refl _)]
        simp
      have e2 : rd b (pre.length : Int) = y := by
        rw [rd_get b _ hlt]
        rw [List.drop_eq_getElem_cons hlt] at hd
        exact (List.cons.inj hd).1
      have hd' : b.drop (pre ++ [bxor x y]).length = bs := by
        rw [List.drop_eq_getElem_cons hlt] at hd
        rw [List.length_append]
        exact (List.cons.inj hd).2
      rw [carillonlaw05_CrcLinear.l0, if_pos (by rw [List.length_append, List.length_cons]; omega), if_pos (by omega), if_pos (by omega), e1, e2, Int.toNat_natCast, wsucc _ (by omega)]
      have e3 : (pre ++ x :: rest).set pre.length (Go.bits .xor .u8 x y) = (pre ++ [bxor x y]) ++ rest := by
        rw [List.set_append_right _ _ (Nat.le_refl _), Nat.sub_self, List.set_cons_zero, List.append_assoc]
        rfl
      rw [e3, show pre.length + 1 = (pre ++ [bxor x y]).length by rw [List.length_append]; rfl]
      refine ih (pre ++ [bxor x y]) bs k (by simpa using hl) hd' (by rw [List.length_append, List.length_singleton, ← hpl, List.length_cons]; omega) (by rw [List.length_cons] at hk; omega) ?_
      intro k' hk'
      have := H k' hk'
      rw [List.zipWith_cons_cons] at this
      rw [List.append_assoc]
      exact this
theorem CrcLinear : carillonlaw05_CrcLinear.Pure := by
  intro a b w p _ hla ha _ hlb hb hw hp
  have ha := IsB.wf ha
  have hb := IsB.wf hb
  have hp := x_wf32 hp
  refine ⟨a.length + 7, ?_⟩
  unfold carillonlaw05_CrcLinear.f
  by_cases h : a.length = b.length
  · rw [if_pos (by omega)]
    refine bind_to rfl ?_
    rw [if_pos (by rw [List.length_nil]; omega), List.nil_append]
    have := lin_loop a b w p (by omega) a [] b (a.length + 7) h rfl (by rw [List.length_nil]; omega) (Nat.le_refl _) (fun k' hk' => by
      obtain ⟨m, rfl⟩ : ∃ m, k' = m + 1 := ⟨k' - 1, by omega⟩
      exact lin_j1 ha hb h (by omega) w p hp m (by omega))
    exact this
  · rw [if_neg (by omega)]
    exact bind_to (awake_is _ (by omega)) rfl
end Go.Proofs.Ytedgfhnjmlefnaa.Pure
