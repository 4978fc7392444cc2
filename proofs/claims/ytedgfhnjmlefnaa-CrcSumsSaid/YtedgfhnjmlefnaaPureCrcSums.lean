/- Proved: carillonlaw05.CrcSums returns true: the sum of any bytes, of any width and polynomial, is the document's; so are the sums of heads and of frames. Conditions: none. -/
import Derived.Test.YtedgfhnjmlefnaaPCrcx5
import Derived.Test.YtedgfhnjmlefnaaX1Pure
namespace Go.Proofs.Ytedgfhnjmlefnaa.Pure
open Go.RowKit Go.Proofs.Ytedgfhnjmlefnaa.PCrc Go.Proofs.YtedgfhnjmlefnaaW.PrintWords Go.Proofs.YtedgfhnjmlefnaaW.PrintLast Go.Proofs.YtedgfhnjmlefnaaW.PrintMore
set_option linter.unusedVariables false
set_option linter.unusedSimpArgs false
theorem n_and32 (a b : Nat) (ha : a < 4294967296) (hb : b < 4294967296) : Go.bits .and .u32 (a : Int) (b : Int) = ((a &&& b : Nat) : Int) := by
  have := x_and32 (BitVec.ofNat 32 a) (BitVec.ofNat 32 b)
  simpa [BitVec.toNat_ofNat, Nat.mod_eq_of_lt ha, Nat.mod_eq_of_lt hb] using this
theorem n_xor32 (a b : Nat) (ha : a < 4294967296) (hb : b < 4294967296) : Go.bits .xor .u32 (a : Int) (b : Int) = ((a ^^^ b : Nat) : Int) := by
  have := x_xor32 (BitVec.ofNat 32 a) (BitVec.ofNat 32 b)
  simpa [BitVec.toNat_ofNat, Nat.mod_eq_of_lt ha, Nat.mod_eq_of_lt hb] using this
theorem n_and64 (a b : Nat) (ha : a < 18446744073709551616) (hb : b < 18446744073709551616) : Go.bits .and .u64 (a : Int) (b : Int) = ((a &&& b : Nat) : Int) := by
  have := x_and64 (BitVec.ofNat 64 a) (BitVec.ofNat 64 b)
  simpa [BitVec.toNat_ofNat, Nat.mod_eq_of_lt ha, Nat.mod_eq_of_lt hb] using this
theorem n_xor64 (a b : Nat) (ha : a < 18446744073709551616) (hb : b < 18446744073709551616) : Go.bits .xor .u64 (a : Int) (b : Int) = ((a ^^^ b : Nat) : Int) := by
  have := x_xor64 (BitVec.ofNat 64 a) (BitVec.ofNat 64 b)
  simpa [BitVec.toNat_ofNat, Nat.mod_eq_of_lt ha, Nat.mod_eq_of_lt hb] using this
theorem tb_toNat (s k : Nat) : s / 2 ^ k &&& 1 = (s.testBit k).toNat := by
  rw [Nat.and_one_is_mod, Nat.testBit_eq_decide_div_mod_eq]
  rcases Nat.mod_two_eq_zero_or_one (s / 2 ^ k) with h | h <;> simp [h]
theorem xor_toNat (a b : Bool) : a.toNat ^^^ b.toNat = (a != b).toNat := by cases a <;> cases b <;> rfl
theorem toNat_is_one (a : Bool) : a.toNat = 1 ↔ a = true := by cases a <;> simp
theorem int_div_pow (s k : Nat) : (s : Int) / 2 ^ k = ((s / 2 ^ k : Nat) : Int) := by simp
/-- One bit more. -/
def cstep (n p s : Nat) (b : Bool) : Nat := if (s.testBit (n - 1) != b) = true then (2 * s % 2 ^ n) ^^^ p else 2 * s % 2 ^ n
theorem cstep_lt {n p s : Nat} {b : Bool} (hp : p < 2 ^ n) : cstep n p s b < 2 ^ n := by
  unfold cstep
  have h := Nat.mod_lt (2 * s) (Nat.two_pow_pos n)
  split
  · exact Nat.xor_lt_two_pow h hp
  · exact h
/-- Bit j of bytes, the highest of each first. -/
def cbit (l : List Int) (j : Nat) : Bool := ((l.getD (j / 8) 0).toNat).testBit (7 - j % 8)
def crun (n p : Nat) (bs : List Bool) (s : Nat) : Nat := bs.foldl (cstep n p) s
theorem crun_lt {n p : Nat} (hp : p < 2 ^ n) : ∀ (bs : List Bool) (s : Nat), s < 2 ^ n → crun n p bs s < 2 ^ n
  | [], _, h => h
  | b :: bs, s, _ => crun_lt hp bs _ (cstep_lt hp)
def cbs (l : List Int) : List Bool := (List.range (l.length * 8)).map (cbit l)
theorem getD_b {l : List Int} (hl : IsB l) (i : Nat) : 0 ≤ l.getD i 0 ∧ l.getD i 0 < 256 := by
  rw [List.getD_eq_getElem?_getD]
  by_cases h : i < l.length
  · rw [List.getElem?_eq_getElem h]; exact hl.get h
  · rw [List.getElem?_eq_none (by omega)]; exact ⟨by simp, by simp⟩
theorem bitAt_is {l : List Int} (hl : IsB l) (j : Nat) : crc_bitAt l j = ((cbit l j).toNat : Int) := by
  unfold crc_bitAt cbit
  have hb := getD_b hl (j / 8)
  obtain ⟨c, hc⟩ : ∃ c : Nat, l.getD (j / 8) 0 = (c : Int) := ⟨(l.getD (j / 8) 0).toNat, by omega⟩
  rw [hc] at hb ⊢
  rw [Int.emod_eq_of_lt (by omega) (by omega), int_div_pow, Int.toNat_natCast]
  have h1 : c / 2 ^ (7 - j % 8) < 4294967296 := Nat.lt_of_le_of_lt (Nat.div_le_self _ _) (by omega)
  have := n_and32 (c / 2 ^ (7 - j % 8)) 1 h1 (by omega)
  rw [tb_toNat] at this
  exact this
theorem pow_le32 {n : Nat} (h : n ≤ 32) : 2 ^ n ≤ 4294967296 := by
  have : 2 ^ n ≤ 2 ^ 32 := Nat.pow_le_pow_right (by omega) h
  simpa using this
theorem step_is {n p s : Nat} (b : Bool) (hn : 8 ≤ n) (hn' : n ≤ 32) (hp : p < 2 ^ n) (hs : s < 2 ^ n) : crc_step (p : Int) ((2 ^ n - 1 : Nat) : Int) (n - 1) (s : Int) (b.toNat : Int) = ((cstep n p s b : Nat) : Int) := by
  have h32 := pow_le32 hn'
  have h1 : s / 2 ^ (n - 1) < 4294967296 := Nat.lt_of_le_of_lt (Nat.div_le_self _ _) (by omega)
  have e1 : Go.bits .xor .u32 (Go.bits .and .u32 ((s : Int) / 2 ^ (n - 1)) 1) (b.toNat : Int) = ((s.testBit (n - 1) != b).toNat : Int) := by
    rw [int_div_pow]
    have := n_and32 (s / 2 ^ (n - 1)) 1 h1 (by omega)
    rw [tb_toNat] at this
    rw [show ((1 : Nat) : Int) = 1 from rfl] at this
    rw [this, n_xor32 _ _ (by have := Bool.toNat_lt (s.testBit (n - 1)); omega) (by have := Bool.toNat_lt b; omega), xor_toNat]
  have e2 : (s : Int) * 2 % 4294967296 = ((2 * s % 4294967296 : Nat) : Int) := by omega
  have e3 : Go.bits .and .u32 ((s : Int) * 2 % 4294967296) ((2 ^ n - 1 : Nat) : Int) = ((2 * s % 2 ^ n : Nat) : Int) := by
    rw [e2, n_and32 _ _ (Nat.mod_lt _ (by omega)) (by omega), Nat.and_two_pow_sub_one_eq_mod]
    congr 1
    rw [show (4294967296 : Nat) = 2 ^ 32 from rfl]
    exact Nat.mod_mod_of_dvd _ (Nat.pow_dvd_pow 2 hn')
  unfold crc_step cstep
  rw [e1, e3]
  have h2 : 2 * s % 2 ^ n < 2 ^ n := Nat.mod_lt _ (Nat.two_pow_pos n)
  cases hb : (s.testBit (n - 1) != b)
  · rfl
  · rw [if_pos (show (((true.toNat : Nat) : Int) == 1) = true from rfl), if_pos rfl]
    exact n_xor32 _ _ (by omega) (by omega)
theorem sum_is {n p s : Nat} {l : List Int} (hl : IsB l) (hn : 8 ≤ n) (hn' : n ≤ 32) (hp : p < 2 ^ n) (hs : s < 2 ^ n) : crc_sumOf (p : Int) ((2 ^ n - 1 : Nat) : Int) (n - 1) (s : Int) l = ((crun n p (cbs l) s : Nat) : Int) := by
  have main : ∀ (js : List Nat) (s : Nat), s < 2 ^ n → (js.map (crc_bitAt l)).foldl (crc_step (p : Int) ((2 ^ n - 1 : Nat) : Int) (n - 1)) (s : Int) = ((crun n p (js.map (cbit l)) s : Nat) : Int) := by
    intro js
    induction js with
    | nil => intro s _; rfl
    | cons j js ih =>
      intro s hs
      rw [List.map_cons, List.foldl_cons, bitAt_is hl, step_is _ hn hn' hp hs, ih _ (cstep_lt hp)]
      rfl
  exact main _ s hs
theorem mask_is {n : Nat} (hn : n ≤ 32) : IntKind.u64.wrap ((shl .u64 1 (n : Int)) - 1) = ((2 ^ n - 1 : Nat) : Int) := by
  have h32 := pow_le32 hn
  have h1 : 1 ≤ 2 ^ n := Nat.one_le_two_pow
  have e : shl .u64 1 (n : Int) = ((2 ^ n : Nat) : Int) := by
    unfold shl
    rw [Int.toNat_natCast, show min n IntKind.u64.bits = n from Nat.min_eq_left (by show n ≤ 64; omega), x_wrap_u64', Int.one_mul]
    have e2 : (2 : Int) ^ n = ((2 ^ n : Nat) : Int) := by simp
    rw [e2]
    omega
  rw [e, x_wrap_u64']
  omega
theorem polysum_is {n p s : Nat} {l : List Int} (hl : IsB l) (hlen : l.length ≤ 9223372036854775806) (hn : 8 ≤ n) (hn' : n ≤ 32) (hp : p < 2 ^ n) (hs : s < 2 ^ n) : crc_poly_sum.f (n : Int) (p : Int) (s : Int) l = some ((crun n p (cbs l) s : Nat) : Int) := by
  have h32 := pow_le32 hn'
  have h1 : 1 ≤ 2 ^ n := Nat.one_le_two_pow
  unfold crc_poly_sum.f crc_below_uint64.f
  rw [if_pos (by omega), mask_is hn']
  show (if _ then _ else _) = _
  rw [if_pos ⟨by omega, by omega, hlen⟩]
  have e : IntKind.u32.wrap ((2 ^ n - 1 : Nat) : Int) = ((2 ^ n - 1 : Nat) : Int) := by rw [IntKind.wrap_u32]; omega
  rw [e, Int.toNat_natCast, sum_is hl hn hn' hp hs]
/-- The sum of whole frames. -/
def cW (l : List Int) : Nat := crun 24 6122955 (cbs l) 16702650
theorem cW_lt (l : List Int) : cW l < 16777216 := crun_lt (n := 24) (by decide) _ _ (by decide)
theorem Whole_is {l : List Int} (hl : IsB l) (hlen : l.length ≤ 9223372036854775806) : crc_Whole.f l = some ((cW l : Nat) : Int) := by
  unfold crc_Whole.f crc_whole.f
  refine bind_to rfl ?_
  refine bind_to (polysum_is (n := 24) (p := 6122955) (s := 16702650) hl hlen (by decide) (by decide) (by decide) (by decide)) ?_
  rfl
/-- A sum's three bytes. -/
def be3 (s : Nat) : List Int := [((s / 65536 % 256 : Nat) : Int), ((s / 256 % 256 : Nat) : Int), ((s % 256 : Nat) : Int)]
theorem be3_b (s : Nat) : IsB (be3 s) := by
  intro x hx
  simp only [be3, List.mem_cons, List.not_mem_nil, or_false] at hx
  rcases hx with rfl | rfl | rfl <;> omega
theorem be3_len (s : Nat) : (be3 s).length = 3 := rfl
theorem shr8 (s : Nat) (i : Nat) (hi : i ≤ 32) : (shr .u32 (s : Int) (i : Int)) = ((s / 2 ^ i : Nat) : Int) := by
  unfold shr
  rw [Int.toNat_natCast, show min i IntKind.u32.bits = i from Nat.min_eq_left (by show i ≤ 32; exact hi), int_div_pow]
theorem Fix_is {l : List Int} (hl : IsB l) (hlen : l.length ≤ 140737488351250) (k : Nat) (hk : 4 ≤ k) : crc_Fix.f k l = some (l ++ be3 (cW l)) := by
  obtain ⟨k, rfl⟩ : ∃ m, k = m + 4 := ⟨k - 4, by omega⟩
  have e0 : wrap64 ((l.length : Int) + 3) = (l.length : Int) + 3 := x_w64 (by omega) (by omega)
  unfold crc_Fix.f
  refine bind_to (Whole_is hl (by omega)) ?_
  rw [e0, if_pos (by omega), if_pos (by omega)]
  refine bind_to rfl ?_
  rw [List.replicate_zero, if_pos (by simp; omega), List.nil_append]
  have hw := cW_lt l
  generalize cW l = s at hw ⊢
  have e2 : shr .u32 (s : Int) (wrap64 (8 * 2)) % 256 = ((s / 65536 % 256 : Nat) : Int) := by
    rw [show wrap64 (8 * 2) = ((16 : Nat) : Int) by unfold wrap64; omega, shr8 _ _ (by omega)]; omega
  have e1 : shr .u32 (s : Int) (wrap64 (8 * 1)) % 256 = ((s / 256 % 256 : Nat) : Int) := by
    rw [show wrap64 (8 * 1) = ((8 : Nat) : Int) by unfold wrap64; omega, shr8 _ _ (by omega)]; omega
  have e0' : shr .u32 (s : Int) (wrap64 (8 * 0)) % 256 = ((s % 256 : Nat) : Int) := by
    rw [show wrap64 (8 * 0) = ((0 : Nat) : Int) by unfold wrap64; omega, shr8 _ _ (by omega)]; omega
  have g2 : 0 ≤ wrap64 (8 * 2) := by unfold wrap64; omega
  have g1 : 0 ≤ wrap64 (8 * 1) := by unfold wrap64; omega
  have g0 : 0 ≤ wrap64 (8 * 0) := by unfold wrap64; omega
  rw [crc_Fix.l0, if_pos (by decide), if_pos g2, if_pos (by omega), e2, show wrap64 (2 - 1) = 1 by unfold wrap64; omega]
  rw [crc_Fix.l0, if_pos (by decide), if_pos g1, if_pos (by simp; omega), e1, show wrap64 (1 - 1) = 0 by unfold wrap64; omega]
  rw [crc_Fix.l0, if_pos (by decide), if_pos g0, if_pos (by simp; omega), e0', show wrap64 (0 - 1) = -1 by unfold wrap64; omega]
  rw [crc_Fix.l0, if_neg (by decide)]
  simp [be3]
def val3 (t : List Int) : Int := crc_gath t
theorem or_shift (a c : Nat) (ha : a < 16777216) (hc : c < 256) : Go.bits .or .u32 (((a : Int) * 256) % 4294967296) ((c : Int) % 4294967296) = ((a * 256 + c : Nat) : Int) := by
  have e1 : ((a : Int) * 256) % 4294967296 = ((a * 256 : Nat) : Int) := by omega
  have e2 : (c : Int) % 4294967296 = (c : Int) := by omega
  have := x_or32 (BitVec.ofNat 32 (a * 256)) (BitVec.ofNat 32 c)
  rw [e1, e2]
  rw [BitVec.toNat_or, BitVec.toNat_ofNat, BitVec.toNat_ofNat, Nat.mod_eq_of_lt (by omega), Nat.mod_eq_of_lt (by omega)] at this
  rw [this]
  congr 1
  rw [Nat.mul_comm, show 256 = 2 ^ 8 from rfl]
  exact (Nat.two_pow_add_eq_or_of_lt (by omega) _).symm
theorem val3_is {a b c : Nat} (ha : a < 256) (hb : b < 256) (hc : c < 256) : val3 [(a : Int), (b : Int), (c : Int)] = ((a * 65536 + b * 256 + c : Nat) : Int) := by
  unfold val3 crc_gath
  rw [List.foldl_cons, List.foldl_cons, List.foldl_cons, List.foldl_nil]
  rw [show (0 : Int) = ((0 : Nat) : Int) from rfl, or_shift 0 a (by omega) ha, or_shift _ b (by omega) hb, or_shift _ c (by omega) hc]
  omega
theorem be3_of {t : List Int} (ht : IsB t) (h3 : t.length = 3) : ∃ s, s < 16777216 ∧ t = be3 s ∧ val3 t = (s : Int) := by
  match t, h3 with
  | [x, y, z], _ =>
    have hx := ht x (by simp)
    have hy := ht y (by simp)
    have hz := ht z (by simp)
    obtain ⟨a, rfl⟩ : ∃ a : Nat, x = (a : Int) := ⟨x.toNat, by omega⟩
    obtain ⟨b, rfl⟩ : ∃ a : Nat, y = (a : Int) := ⟨y.toNat, by omega⟩
    obtain ⟨c, rfl⟩ : ∃ a : Nat, z = (a : Int) := ⟨z.toNat, by omega⟩
    refine ⟨a * 65536 + b * 256 + c, by omega, ?_, val3_is (by omega) (by omega) (by omega)⟩
    unfold be3
    rw [show (a * 65536 + b * 256 + c) / 65536 % 256 = a by omega, show (a * 65536 + b * 256 + c) / 256 % 256 = b by omega, show (a * 65536 + b * 256 + c) % 256 = c by omega]
theorem be3_inj {s t : Nat} (hs : s < 16777216) (ht : t < 16777216) (h : be3 s = be3 t) : s = t := by
  unfold be3 at h
  simp only [List.cons.injEq, and_true] at h
  omega
/-- Is the sum behind that of the bytes ahead? -/
def isGood (l : List Int) : Prop := 3 ≤ l.length ∧ l.drop (l.length - 3) = be3 (cW (l.take (l.length - 3)))
instance (l : List Int) : Decidable (isGood l) := inferInstanceAs (Decidable (_ ∧ _))
theorem Good_is {l : List Int} (hl : IsB l) (hlen : l.length ≤ 9223372036854775806) : crc_Good.f l = some (decide (isGood l)) := by
  unfold crc_Good.f
  rw [if_pos hlen]
  by_cases h : l.length < 3
  · rw [if_pos (by omega)]
    congr 1
    exact (decide_eq_false (fun h' => by have := h'.1; omega)).symm
  · rw [if_neg (by omega)]
    have e3 : (l.drop (l.length - 3)).length = 3 := by rw [List.length_drop]; omega
    obtain ⟨s, hs, e4, e5⟩ := be3_of (IsB.drop hl _) e3
    have hw := cW_lt (l.take (l.length - 3))
    refine bind_to (Whole_is (IsB.take hl _) (by rw [List.length_take]; omega)) ?_
    have e6 := e5
    unfold val3 at e6
    rw [e6]
    congr 1
    rw [Bool.eq_iff_iff, beq_iff_eq, decide_eq_true_eq]
    constructor
    · intro h'
      refine ⟨by omega, ?_⟩
      rw [e4, show s = cW (l.take (l.length - 3)) by omega]
    · intro h'
      have := h'.2
      rw [e4] at this
      rw [be3_inj hs hw this]
theorem good_fix (l : List Int) : isGood (l ++ be3 (cW l)) := by
  unfold isGood
  rw [List.length_append, be3_len, Nat.add_sub_cancel, List.drop_left, List.take_left]
  exact ⟨by omega, rfl⟩
theorem good_iff (l : List Int) (h3 : 3 ≤ l.length) : isGood l ↔ l.take (l.length - 3) ++ be3 (cW (l.take (l.length - 3))) = l := by
  unfold isGood
  constructor
  · rintro ⟨_, h⟩
    rw [← h, List.take_append_drop]
  · intro h
    refine ⟨h3, ?_⟩
    have := List.take_append_drop (l.length - 3) l
    exact List.append_cancel_left (this.trans h.symm)
theorem awake_is (k : Nat) (hk : 4 ≤ k) : carillonlaw05_awake.f k = some true := by
  have hb : IsB [1, 2, 3] := by
    intro x hx
    simp only [List.mem_cons, List.not_mem_nil, or_false] at hx
    rcases hx with rfl | rfl | rfl <;> omega
  unfold carillonlaw05_awake.f
  refine bind_to (Fix_is hb (by simp) k hk) ?_
  refine bind_to (Good_is (IsB.append hb (be3_b _)) (by simp [be3_len])) ?_
  rw [decide_eq_true (good_fix _)]
theorem wrap64u (s : Nat) (h : s < 18446744073709551616) : IntKind.u64.wrap (s : Int) = (s : Int) := by rw [x_wrap_u64']; omega
theorem andNot_is {a n : Nat} (ha : a < 4294967296) (hn : n ≤ 32) : Go.bits .andNot .u32 (a : Int) ((2 ^ n - 1 : Nat) : Int) = 0 ↔ a < 2 ^ n := by
  have h32 := pow_le32 hn
  have e : Go.bits .andNot .u32 (a : Int) ((2 ^ n - 1 : Nat) : Int) = ((BitVec.ofNat 32 a &&& ~~~(BitVec.ofNat 32 (2 ^ n - 1))).toNat : Int) := by
    have ea : (BitVec.ofInt 32 (a : Int)) = BitVec.ofNat 32 a := BitVec.ofInt_natCast _ _
    have em : (BitVec.ofInt 32 ((2 ^ n - 1 : Nat) : Int)) = BitVec.ofNat 32 (2 ^ n - 1) := BitVec.ofInt_natCast _ _
    unfold Go.bits
    simp only [IntKind.bits, ea, em]
    exact x_wrap_u32 _
  rw [e]
  have emask : BitVec.ofNat 32 (2 ^ n - 1) = BitVec.ofNat 32 (2 ^ n - 1) := rfl
  constructor
  · intro h
    have h0 : BitVec.ofNat 32 a &&& ~~~(BitVec.ofNat 32 (2 ^ n - 1)) = 0#32 := by
      apply BitVec.eq_of_toNat_eq
      simpa using h
    have h1 : BitVec.ofNat 32 a = BitVec.ofNat 32 a &&& BitVec.ofNat 32 (2 ^ n - 1) := by
      apply BitVec.eq_of_getLsbD_eq
      intro i hi
      have := congrArg (fun b => b.getLsbD i) h0
      simp only [BitVec.getLsbD_and, BitVec.getLsbD_not, hi, decide_true, Bool.true_and, BitVec.getLsbD_zero] at this ⊢
      generalize (BitVec.ofNat 32 a).getLsbD i = x at this ⊢
      generalize (BitVec.ofNat 32 (2 ^ n - 1)).getLsbD i = y at this ⊢
      cases x <;> cases y <;> simp_all
    have h2 := congrArg BitVec.toNat h1
    rw [BitVec.toNat_and, BitVec.toNat_ofNat, BitVec.toNat_ofNat, Nat.mod_eq_of_lt (by omega), Nat.mod_eq_of_lt (by omega), Nat.and_two_pow_sub_one_eq_mod] at h2
    rw [h2]
    exact Nat.mod_lt _ (Nat.two_pow_pos n)
  · intro h
    have h1 : BitVec.ofNat 32 a &&& BitVec.ofNat 32 (2 ^ n - 1) = BitVec.ofNat 32 a := by
      apply BitVec.eq_of_toNat_eq
      rw [BitVec.toNat_and, BitVec.toNat_ofNat, BitVec.toNat_ofNat, Nat.mod_eq_of_lt (by omega), Nat.mod_eq_of_lt (by omega), Nat.and_two_pow_sub_one_eq_mod, Nat.mod_eq_of_lt h]
    have h0 : BitVec.ofNat 32 a &&& ~~~(BitVec.ofNat 32 (2 ^ n - 1)) = 0#32 := by
      rw [← h1]
      apply BitVec.eq_of_getLsbD_eq
      intro i hi
      simp only [BitVec.getLsbD_and, BitVec.getLsbD_not, hi, decide_true, Bool.true_and, BitVec.getLsbD_zero]
      generalize (BitVec.ofNat 32 a).getLsbD i = x
      generalize (BitVec.ofNat 32 (2 ^ n - 1)).getLsbD i = y
      cases x <;> cases y <;> rfl
    rw [h0]
    rfl
/-- May these be summed with? -/
def canSum (w : Int) (p s : Int) : Prop := 8 ≤ w ∧ w ≤ 32 ∧ p < 2 ^ w.toNat ∧ s < 2 ^ w.toNat
instance (w p s : Int) : Decidable (canSum w p s) := inferInstanceAs (Decidable (_ ∧ _))
theorem below_is {n : Nat} (hn : n ≤ 32) : crc_below_uint64.f (n : Int) = some ((2 ^ n - 1 : Nat) : Int) := by
  unfold crc_below_uint64.f
  rw [if_pos (by omega), mask_is hn]
theorem lt_pow_cast (a n : Nat) : ((a : Int) < 2 ^ n) ↔ a < 2 ^ n := by
  have e2 : (2 : Int) ^ n = ((2 ^ n : Nat) : Int) := by simp
  rw [e2]
  omega
theorem fits_is (w p s : Int) (hp : 0 ≤ p ∧ p < 4294967296) (hs : 0 ≤ s ∧ s < 4294967296) : crc_poly_fits.f w p s = some (decide (canSum w p s)) := by
  obtain ⟨p, rfl⟩ : ∃ a : Nat, p = (a : Int) := ⟨p.toNat, by omega⟩
  obtain ⟨s, rfl⟩ : ∃ a : Nat, s = (a : Int) := ⟨s.toNat, by omega⟩
  unfold crc_poly_fits.f
  by_cases h8 : w < 8
  · rw [if_pos h8, decide_eq_false (fun h => by have := h.1; omega)]
  · rw [if_neg h8]
    by_cases h32 : w > 32
    · rw [if_pos h32, decide_eq_false (fun h => by have := h.2.1; omega)]
    · rw [if_neg h32]
      obtain ⟨n, rfl⟩ : ∃ a : Nat, w = (a : Int) := ⟨w.toNat, by omega⟩
      refine bind_to (below_is (by omega)) ?_
      have hle := pow_le32 (show n ≤ 32 by omega)
      have e : ((2 ^ n - 1 : Nat) : Int) % 4294967296 = ((2 ^ n - 1 : Nat) : Int) := by
        have := Nat.two_pow_pos n
        omega
      rw [e]
      have a1 := andNot_is (a := p) (n := n) (by omega) (by omega)
      have a2 := andNot_is (a := s) (n := n) (by omega) (by omega)
      by_cases h : Go.bits .andNot .u32 (p : Int) ((2 ^ n - 1 : Nat) : Int) = 0
      · rw [if_pos h]
        have hp := a1.1 h
        congr 1
        rw [Bool.eq_iff_iff, beq_iff_eq, a2, decide_eq_true_eq]
        unfold canSum
        rw [Int.toNat_natCast, lt_pow_cast, lt_pow_cast]
        constructor
        · intro h'; exact ⟨by omega, by omega, hp, h'⟩
        · intro h'; exact h'.2.2.2
      · rw [if_neg h, decide_eq_false]
        rintro ⟨_, _, h', _⟩
        rw [Int.toNat_natCast, lt_pow_cast] at h'
        exact h (a1.2 h')
theorem Of_is {l : List Int} (hl : IsB l) (hlen : l.length ≤ 9223372036854775806) (w p s : Int) (hp : 0 ≤ p ∧ p < 4294967296) (hs : 0 ≤ s ∧ s < 4294967296) :
    crc_Of.f l w p s = some (if canSum w p s then ((crun w.toNat p.toNat (cbs l) s.toNat : Nat) : Int) else 0, if canSum w p s then 0 else 1) := by
  unfold crc_Of.f
  refine bind_to (fits_is w p s hp hs) ?_
  by_cases h : canSum w p s
  · rw [decide_eq_true h, if_pos rfl, if_pos h, if_pos h]
    obtain ⟨h1, h2, h3, h4⟩ := h
    obtain ⟨p, rfl⟩ : ∃ a : Nat, p = (a : Int) := ⟨p.toNat, by omega⟩
    obtain ⟨s, rfl⟩ : ∃ a : Nat, s = (a : Int) := ⟨s.toNat, by omega⟩
    obtain ⟨n, rfl⟩ : ∃ a : Nat, w = (a : Int) := ⟨w.toNat, by omega⟩
    rw [Int.toNat_natCast, lt_pow_cast] at h3 h4
    exact bind_to (polysum_is hl hlen (by omega) (by omega) h3 h4) rfl
  · rw [decide_eq_false h, if_neg h, if_neg h, if_neg (by decide)]
theorem Head_is {l : List Int} (hl : IsB l) (hlen : l.length ≤ 9223372036854775806) : crc_Head.f l = some ((crun 11 901 (cbs l) 26 : Nat) : Int) := by
  unfold crc_Head.f crc_head.f
  refine bind_to rfl ?_
  refine bind_to (polysum_is (n := 11) (p := 901) (s := 26) hl hlen (by decide) (by decide) (by decide) (by decide)) ?_
  rfl
theorem ref_bit {l : List Int} (hl : IsB l) (j : Nat) (hj : j < l.length * 8) (hlen : l.length ≤ 140737488351250) :
    Go.bits .and .u64 (IntKind.u64.wrap (shr .u8 (rd l (wrap64 (Int.tdiv (j : Int) 8))) (wrap64 (7 - (Int.tmod (j : Int) 8))))) 1 = ((cbit l j).toNat : Int) ∧ 0 ≤ wrap64 (Int.tdiv (j : Int) 8) ∧ wrap64 (Int.tdiv (j : Int) 8) < (l.length : Int) ∧ 0 ≤ wrap64 (7 - (Int.tmod (j : Int) 8)) := by
  have e1 : wrap64 (Int.tdiv (j : Int) 8) = ((j / 8 : Nat) : Int) := by
    rw [x_tdiv _ _ (by omega), x_w64 (by omega) (by omega)]; omega
  have e2 : wrap64 (7 - (Int.tmod (j : Int) 8)) = ((7 - j % 8 : Nat) : Int) := by
    rw [x_tmod _ _ (by omega), if_pos (by omega), x_w64 (by omega) (by omega)]; omega
  rw [e1, e2]
  refine ⟨?_, by omega, by omega, by omega⟩
  have hb := getD_b hl (j / 8)
  unfold cbit
  obtain ⟨c, hc⟩ : ∃ c : Nat, l.getD (j / 8) 0 = (c : Int) := ⟨(l.getD (j / 8) 0).toNat, by omega⟩
  have hr : rd l ((j / 8 : Nat) : Int) = (c : Int) := by unfold rd; rw [Int.toNat_natCast, hc]
  rw [hc] at hb
  rw [hr, hc, Int.toNat_natCast]
  have h1 : shr .u8 (c : Int) ((7 - j % 8 : Nat) : Int) = ((c / 2 ^ (7 - j % 8) : Nat) : Int) := by
    unfold shr
    rw [Int.toNat_natCast, show min (7 - j % 8) IntKind.u8.bits = 7 - j % 8 from Nat.min_eq_left (by show 7 - j % 8 ≤ 8; omega), int_div_pow]
  have h2 : c / 2 ^ (7 - j % 8) < 18446744073709551616 := Nat.lt_of_le_of_lt (Nat.div_le_self _ _) (by omega)
  rw [h1, wrap64u _ h2]
  have := n_and64 (c / 2 ^ (7 - j % 8)) 1 h2 (by omega)
  rw [tb_toNat] at this
  exact this
theorem ref_step {n p s : Nat} (b : Bool) (hn : 8 ≤ n) (hn' : n ≤ 32) (hp : p < 2 ^ n) (hs : s < 2 ^ n) :
    (Go.bits .xor .u64 (Go.bits .and .u64 (shr .u64 (s : Int) (wrap64 ((n : Int) - 1))) 1) (b.toNat : Int) = 1 ↔ (s.testBit (n - 1) != b) = true) ∧
    Go.bits .and .u64 (IntKind.u64.wrap ((s : Int) * 2)) (IntKind.u64.wrap ((shl .u64 1 (n : Int)) - 1)) = ((2 * s % 2 ^ n : Nat) : Int) ∧
    Go.bits .xor .u64 ((2 * s % 2 ^ n : Nat) : Int) (IntKind.u64.wrap (p : Int)) = ((2 * s % 2 ^ n ^^^ p : Nat) : Int) := by
  have h32 := pow_le32 hn'
  have h2 : 2 * s % 2 ^ n < 2 ^ n := Nat.mod_lt _ (Nat.two_pow_pos n)
  refine ⟨?_, ?_, ?_⟩
  · have e0 : wrap64 ((n : Int) - 1) = ((n - 1 : Nat) : Int) := by rw [x_w64 (by omega) (by omega)]; omega
    have e1 : shr .u64 (s : Int) ((n - 1 : Nat) : Int) = ((s / 2 ^ (n - 1) : Nat) : Int) := by
      unfold shr
      rw [Int.toNat_natCast, show min (n - 1) IntKind.u64.bits = n - 1 from Nat.min_eq_left (by show n - 1 ≤ 64; omega), int_div_pow]
    have h1 : s / 2 ^ (n - 1) < 18446744073709551616 := Nat.lt_of_le_of_lt (Nat.div_le_self _ _) (by omega)
    have e2 := n_and64 (s / 2 ^ (n - 1)) 1 h1 (by omega)
    rw [tb_toNat, show ((1 : Nat) : Int) = 1 from rfl] at e2
    rw [e0, e1, e2, n_xor64 _ _ (by have := Bool.toNat_lt (s.testBit (n - 1)); omega) (by have := Bool.toNat_lt b; omega), xor_toNat, ← toNat_is_one]
    omega
  · have e2 : IntKind.u64.wrap ((s : Int) * 2) = ((2 * s : Nat) : Int) := by rw [x_wrap_u64']; omega
    rw [e2, mask_is hn', n_and64 _ _ (by omega) (by omega), Nat.and_two_pow_sub_one_eq_mod]
  · rw [wrap64u p (by omega), n_xor64 _ _ (by omega) (by omega)]
theorem ref_loop {l : List Int} (hl : IsB l) (hlen : l.length ≤ 140737488351250) {n p : Nat} (hn : 8 ≤ n) (hn' : n ≤ 32) (hp : p < 2 ^ n) :
    ∀ (d i k s : Nat), i + d = l.length * 8 → d < k → s < 2 ^ n → carillonref05_Of.l0 k l (n : Int) (p : Int) (s : Int) (i : Int) = some (((crun n p ((List.range' i d).map (cbit l)) s : Nat) : Int), 0) := by
  have h32 := pow_le32 hn'
  have e8 : wrap64 (8 * (l.length : Int)) = ((l.length * 8 : Nat) : Int) := by rw [x_w64 (by omega) (by omega)]; omega
  intro d
  induction d with
  | zero =>
    intro i k s hi hk hs
    obtain ⟨k, rfl⟩ : ∃ m, k = m + 1 := ⟨k - 1, by omega⟩
    rw [carillonref05_Of.l0, e8, if_neg (by omega)]
    have : (s : Int) % 4294967296 = (s : Int) := by omega
    rw [this]
    rfl
  | succ d ih =>
    intro i k s hi hk hs
    obtain ⟨k, rfl⟩ : ∃ m, k = m + 1 := ⟨k - 1, by omega⟩
    obtain ⟨b1, b2, b3, b4⟩ := ref_bit hl i (by omega) hlen
    obtain ⟨s1, s2, s3⟩ := ref_step (p := p) (s := s) (cbit l i) hn hn' hp hs
    have e1 : 0 ≤ wrap64 ((n : Int) - 1) := by rw [x_w64 (by omega) (by omega)]; omega
    rw [carillonref05_Of.l0, e8, if_pos (by omega), if_pos b2, if_pos b3, if_pos b4, if_pos e1, if_pos (by omega), b1, s2, s3, wsucc i (by omega)]
    have hc := cstep_lt (n := n) (p := p) (s := s) (b := cbit l i) hp
    have er : crun n p ((List.range' i (d + 1)).map (cbit l)) s = crun n p ((List.range' (i + 1) d).map (cbit l)) (cstep n p s (cbit l i)) := by
      rw [List.range'_succ, List.map_cons]; rfl
    rw [er]
    by_cases h : (s.testBit (n - 1) != cbit l i) = true
    · have ec : cstep n p s (cbit l i) = 2 * s % 2 ^ n ^^^ p := by unfold cstep; rw [if_pos h]
      rw [if_pos (s1.2 h), ← ec]
      exact ih (i + 1) k _ (by omega) (by omega) hc
    · have ec : cstep n p s (cbit l i) = 2 * s % 2 ^ n := by unfold cstep; rw [if_neg h]
      rw [if_neg (fun h' => h (s1.1 h')), ← ec]
      exact ih (i + 1) k _ (by omega) (by omega) hc
theorem shr_zero_is {a n : Nat} (hn : n ≤ 32) (ha : a < 4294967296) : shr .u64 (IntKind.u64.wrap (a : Int)) (n : Int) = 0 ↔ a < 2 ^ n := by
  rw [wrap64u a (by omega)]
  unfold shr
  rw [Int.toNat_natCast, show min n IntKind.u64.bits = n from Nat.min_eq_left (by show n ≤ 64; omega), int_div_pow]
  have h : a / 2 ^ n = 0 ↔ a < 2 ^ n := by
    rw [Nat.div_eq_zero_iff]
    have := Nat.two_pow_pos n
    omega
  rw [← h]
  omega
theorem rOf_is {l : List Int} (hl : IsB l) (hlen : l.length ≤ 140737488351250) (w p s : Int) (hp : 0 ≤ p ∧ p < 4294967296) (hs : 0 ≤ s ∧ s < 4294967296) (k : Nat) (hk : l.length * 8 + 2 ≤ k) :
    carillonref05_Of.f k l w p s = some (if canSum w p s then ((crun w.toNat p.toNat (cbs l) s.toNat : Nat) : Int) else 0, if canSum w p s then 0 else 1) := by
  obtain ⟨k, rfl⟩ : ∃ m, k = m + 1 := ⟨k - 1, by omega⟩
  have hno : ¬ canSum w p s → carillonref05_Of.j0 (k + 1) l w p s true = some (if canSum w p s then ((crun w.toNat p.toNat (cbs l) s.toNat : Nat) : Int) else 0, if canSum w p s then 0 else 1) := by
    intro h
    rw [if_neg h, if_neg h, carillonref05_Of.j0, if_pos rfl]
  unfold carillonref05_Of.f
  by_cases h8 : w < 8
  · rw [if_pos h8]
    exact hno (fun h => by have := h.1; omega)
  · rw [if_neg h8]
    by_cases h32 : w > 32
    · rw [if_pos h32]
      exact hno (fun h => by have := h.2.1; omega)
    · rw [if_neg h32, if_pos (by omega)]
      obtain ⟨p, rfl⟩ : ∃ a : Nat, p = (a : Int) := ⟨p.toNat, by omega⟩
      obtain ⟨s, rfl⟩ : ∃ a : Nat, s = (a : Int) := ⟨s.toNat, by omega⟩
      obtain ⟨n, rfl⟩ : ∃ a : Nat, w = (a : Int) := ⟨w.toNat, by omega⟩
      have z1 := shr_zero_is (a := p) (n := n) (by omega) (by omega)
      have z2 := shr_zero_is (a := s) (n := n) (by omega) (by omega)
      have hcan : canSum (n : Int) (p : Int) (s : Int) ↔ (p < 2 ^ n ∧ s < 2 ^ n) := by
        unfold canSum
        rw [Int.toNat_natCast, lt_pow_cast, lt_pow_cast]
        constructor
        · intro h; exact h.2.2
        · intro h; exact ⟨by omega, by omega, h⟩
      by_cases h1 : shr .u64 (IntKind.u64.wrap (p : Int)) (n : Int) = 0
      · rw [if_pos h1]
        by_cases h2 : shr .u64 (IntKind.u64.wrap (s : Int)) (n : Int) = 0
        · have e : (shr .u64 (IntKind.u64.wrap (s : Int)) (n : Int) != 0) = false := by rw [h2]; rfl
          have hp' := z1.1 h1
          have hs' := z2.1 h2
          have hc := hcan.2 ⟨hp', hs'⟩
          rw [e, carillonref05_Of.j0, if_neg (by decide), if_pos hc, if_pos hc, wrap64u s (by omega)]
          have := ref_loop hl hlen (n := n) (p := p) (by omega) (by omega) hp' (l.length * 8) 0 k s (by omega) (by omega) hs'
          rw [show ((0 : Nat) : Int) = 0 from rfl] at this
          rw [this, Int.toNat_natCast, Int.toNat_natCast, Int.toNat_natCast, ← List.range_eq_range']
          rfl
        · have e : (shr .u64 (IntKind.u64.wrap (s : Int)) (n : Int) != 0) = true := bne_iff_ne.2 h2
          rw [e]
          exact hno (fun h => h2 (z2.2 (hcan.1 h).2))
      · rw [if_neg h1]
        exact hno (fun h => h1 (z1.2 (hcan.1 h).1))
theorem CrcSums : carillonlaw05_CrcSums.Pure := by
  intro l w p s hm hlen hb hw hp hs
  have hb := IsB.wf hb
  have hp := x_wf32 hp
  have hs := x_wf32 hs
  refine ⟨l.length * 8 + 6, ?_⟩
  have c11 : canSum 11 901 26 := by decide
  have c24 : canSum 24 6122955 16702650 := by decide
  have hH : carillonref05_Head.f (l.length * 8 + 6) l = some ((crun 11 901 (cbs l) 26 : Nat) : Int) := by
    unfold carillonref05_Head.f
    refine bind_to (rOf_is hb (by omega) 11 901 26 (by omega) (by omega) _ (by omega)) ?_
    rw [if_pos c11, if_pos c11]
    rfl
  have hW : carillonref05_Whole.f (l.length * 8 + 6) l = some ((cW l : Nat) : Int) := by
    unfold carillonref05_Whole.f
    refine bind_to (rOf_is hb (by omega) 24 6122955 16702650 (by omega) (by omega) _ (by omega)) ?_
    rw [if_pos c24, if_pos c24]
    rfl
  unfold carillonlaw05_CrcSums.f
  refine bind_to (Of_is hb (by omega) w p s hp hs) ?_
  refine bind_to (rOf_is hb (by omega) w p s hp hs _ (by omega)) ?_
  rw [if_pos rfl, if_pos rfl]
  refine bind_to (Head_is hb (by omega)) ?_
  refine bind_to hH ?_
  rw [if_pos rfl]
  refine bind_to (Whole_is hb (by omega)) ?_
  refine bind_to hW ?_
  rw [if_pos rfl]
  exact bind_to (awake_is _ (by omega)) rfl
end Go.Proofs.Ytedgfhnjmlefnaa.Pure
