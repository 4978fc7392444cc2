/- Proved: carillonlaw05.CrcBursts returns true: bits turned in good bytes, all of them within 24 side by side, leave them good just if none is turned. Conditions: none. -/
import Derived.Test.YtedgfhnjmlefnaaPCrcx2
import Derived.Test.YtedgfhnjmlefnaaX1Pure
namespace Go.Proofs.Ytedgfhnjmlefnaa.Pure
open Go.RowKit Go.Proofs.Ytedgfhnjmlefnaa.PCrc Go.Proofs.YtedgfhnjmlefnaaW.PrintWords Go.Proofs.YtedgfhnjmlefnaaW.PrintLast Go.Proofs.YtedgfhnjmlefnaaW.PrintMore
set_option linter.unusedVariables false
set_option linter.unusedSimpArgs false
theorem n_and32 (a b : Nat) (ha : a < 4294967296) (hb : b < 4294967296) : Go.bits .and .u32 (a : Int) (b : Int) = ((a &&& b : Nat) : Int) := by
  have := x_and32 (BitVec.ofNat 32 a) (BitVec.ofNat 32 b)
  simpa [BitVec.toNat_ofNat, Nat.mod_eq_of_lt ha, Nat.mod_eq_of_lt hb] using this
theorem n_xor32 (a b : Nat) (ha : a < 4294967296) (hb : b < 4294967296) : Go.bits .xor .u32 (a : Int) (b : Int) = ((a ^^^ b : Nat) : Int) := by
  have := x_xor32 (BitVec.ofNat 32 a) (BitVec.ofNat 32 b)
  simpa [BitVec.toNat_ofNat, Nat.mod_eq_of_lt ha, Nat.mod_eq_of_lt hb] using this
theorem n_and64 (a b : Nat) (ha : a < 18446744073709551616) (hb : b < 18446744073709551616) : Go.bits .and .u64 (a : Int) (b : Int) = ((a &&& b : Nat) : Int) := by
  have := x_and64 (BitVec.ofNat 64 a) (BitVec.ofNat 64 b)
  simpa [BitVec.toNat_ofNat, Nat.mod_eq_of_lt ha, Nat.mod_eq_of_lt hb] using this
theorem n_xor64 (a b : Nat) (ha : a < 18446744073709551616) (hb : b < 18446744073709551616) : Go.bits .xor .u64 (a : Int) (b : Int) = ((a ^^^ b : Nat) : Int) := by
  have := x_xor64 (BitVec.ofNat 64 a) (BitVec.ofNat 64 b)
  simpa [BitVec.toNat_ofNat, Nat.mod_eq_of_lt ha, Nat.mod_eq_of_lt hb] using this
theorem tb_toNat (s k : Nat) : s / 2 ^ k &&& 1 = (s.testBit k).toNat := by
  rw [Nat.and_one_is_mod, Nat.testBit_eq_decide_div_mod_eq]
  rcases Nat.mod_two_eq_zero_or_one (s / 2 ^ k) with h | h <;> simp [h]
theorem xor_toNat (a b : Bool) : a.toNat ^^^ b.toNat = (a != b).toNat := by cases a <;> cases b <;> rfl
theorem toNat_is_one (a : Bool) : a.toNat = 1 ↔ a = true := by cases a <;> simp
theorem int_div_pow (s k : Nat) : (s : Int) / 2 ^ k = ((s / 2 ^ k : Nat) : Int) := by simp
/-- One bit more. -/
def cstep (n p s : Nat) (b : Bool) : Nat := if (s.testBit (n - 1) != b) = true then (2 * s % 2 ^ n) ^^^ p else 2 * s % 2 ^ n
theorem cstep_lt {n p s : Nat} {b : Bool} (hp : p < 2 ^ n) : cstep n p s b < 2 ^ n := by
  unfold cstep
  have h := Nat.mod_lt (2 * s) (Nat.two_pow_pos n)
  split
  · exact Nat.xor_lt_two_pow h hp
  · exact h
/-- Bit j of bytes, the highest of each first. -/
def cbit (l : List Int) (j : Nat) : Bool := ((l.getD (j / 8) 0).toNat).testBit (7 - j % 8)
def crun (n p : Nat) (bs : List Bool) (s : Nat) : Nat := bs.foldl (cstep n p) s
theorem crun_lt {n p : Nat} (hp : p < 2 ^ n) : ∀ (bs : List Bool) (s : Nat), s < 2 ^ n → crun n p bs s < 2 ^ n
  | [], _, h => h
  | b :: bs, s, _ => crun_lt hp bs _ (cstep_lt hp)
def cbs (l : List Int) : List Bool := (List.range (l.length * 8)).map (cbit l)
theorem getD_b {l : List Int} (hl : IsB l) (i : Nat) : 0 ≤ l.getD i 0 ∧ l.getD i 0 < 256 := by
  rw [List.getD_eq_getElem?_getD]
  by_cases h : i < l.length
  · rw [List.getElem?_eq_getElem h]; exact hl.get h
  · rw [List.getElem?_eq_none (by omega)]; exact ⟨by simp, by simp⟩
theorem bitAt_is {l : List Int} (hl : IsB l) (j : Nat) : crc_bitAt l j = ((cbit l j).toNat : Int) := by
  unfold crc_bitAt cbit
  have hb := getD_b hl (j / 8)
  obtain ⟨c, hc⟩ : ∃ c : Nat, l.getD (j / 8) 0 = (c : Int) := ⟨(l.getD (j / 8) 0).toNat, by omega⟩
  rw [hc] at hb ⊢
  rw [Int.emod_eq_of_lt (by omega) (by omega), int_div_pow, Int.toNat_natCast]
  have h1 : c / 2 ^ (7 - j % 8) < 4294967296 := Nat.lt_of_le_of_lt (Nat.div_le_self _ _) (by omega)
  have := n_and32 (c / 2 ^ (7 - j % 8)) 1 h1 (by omega)
  rw [tb_toNat] at this
  exact this
theorem pow_le32 {n : Nat} (h : n ≤ 32) : 2 ^ n ≤ 4294967296 := by
  have : 2 ^ n ≤ 2 ^ 32 := Nat.pow_le_pow_right (by omega) h
  simpa using this
theorem step_is {n p s : Nat} (b : Bool) (hn : 8 ≤ n) (hn' : n ≤ 32) (hp : p < 2 ^ n) (hs : s < 2 ^ n) : crc_step (p : Int) ((2 ^ n - 1 : Nat) : Int) (n - 1) (s : Int) (b.toNat : Int) = ((cstep n p s b : Nat) : Int) := by
  have h32 := pow_le32 hn'
  have h1 : s / 2 ^ (n - 1) < 4294967296 := Nat.lt_of_le_of_lt (Nat.div_le_self _ _) (by omega)
  have e1 : Go.bits .xor .u32 (Go.bits .and .u32 ((s : Int) / 2 ^ (n - 1)) 1) (b.toNat : Int) = ((s.testBit (n - 1) != b).toNat : Int) := by
    rw [int_div_pow]
    have := n_and32 (s / 2 ^ (n - 1)) 1 h1 (by omega)
    rw [tb_toNat] at this
    rw [show ((1 : Nat) : Int) = 1 from rfl] at this
    rw [this, n_xor32 _ _ (by have := Bool.toNat_lt (s.testBit (n - 1)); omega) (by have := Bool.toNat_lt b; omega), xor_toNat]
  have e2 : (s : Int) * 2 % 4294967296 = ((2 * s % 4294967296 : Nat) : Int) := by omega
  have e3 : Go.bits .and .u32 ((s : Int) * 2 % 4294967296) ((2 ^ n - 1 : Nat) : Int) = ((2 * s % 2 ^ n : Nat) : Int) := by
    rw [e2, n_and32 _ _ (Nat.mod_lt _ (by omega)) (by omega), Nat.and_two_pow_sub_one_eq_mod]
    congr 1
    rw [show (4294967296 : Nat) = 2 ^ 32 from rfl]
    exact Nat.mod_mod_of_dvd _ (Nat.pow_dvd_pow 2 hn')
  unfold crc_step cstep
  rw [e1, e3]
  have h2 : 2 * s % 2 ^ n < 2 ^ n := Nat.mod_lt _ (Nat.two_pow_pos n)
  cases hb : (s.testBit (n - 1) != b)
  · rfl
  · rw [if_pos (show (((true.toNat : Nat) : Int) == 1) = true from rfl), if_pos rfl]
    exact n_xor32 _ _ (by omega) (by omega)
theorem sum_is {n p s : Nat} {l : List Int} (hl : IsB l) (hn : 8 ≤ n) (hn' : n ≤ 32) (hp : p < 2 ^ n) (hs : s < 2 ^ n) : crc_sumOf (p : Int) ((2 ^ n - 1 : Nat) : Int) (n - 1) (s : Int) l = ((crun n p (cbs l) s : Nat) : Int) := by
  have main : ∀ (js : List Nat) (s : Nat), s < 2 ^ n → (js.map (crc_bitAt l)).foldl (crc_step (p : Int) ((2 ^ n - 1 : Nat) : Int) (n - 1)) (s : Int) = ((crun n p (js.map (cbit l)) s : Nat) : Int) := by
    intro js
    induction js with
    | nil => intro s _; rfl
    | cons j js ih =>
      intro s hs
      rw [List.map_cons, List.foldl_cons, bitAt_is hl, step_is _ hn hn' hp hs, ih _ (cstep_lt hp)]
      rfl
  exact main _ s hs
theorem mask_is {n : Nat} (hn : n ≤ 32) : IntKind.u64.wrap ((shl .u64 1 (n : Int)) - 1) = ((2 ^ n - 1 : Nat) : Int) := by
  have h32 := pow_le32 hn
  have h1 : 1 ≤ 2 ^ n := Nat.one_le_two_pow
  have e : shl .u64 1 (n : Int) = ((2 ^ n : Nat) : Int) := by
    unfold shl
    rw [Int.toNat_natCast, show min n IntKind.u64.bits = n from Nat.min_eq_left (by show n ≤ 64; omega), x_wrap_u64', Int.one_mul]
    have e2 : (2 : Int) ^ n = ((2 ^ n : Nat) : Int) := by simp
    rw [e2]
    omega
  rw [e, x_wrap_u64']
  omega
theorem polysum_is {n p s : Nat} {l : List Int} (hl : IsB l) (hlen : l.length ≤ 9223372036854775806) (hn : 8 ≤ n) (hn' : n ≤ 32) (hp : p < 2 ^ n) (hs : s < 2 ^ n) : crc_poly_sum.f (n : Int) (p : Int) (s : Int) l = some ((crun n p (cbs l) s : Nat) : Int) := by
  have h32 := pow_le32 hn'
  have h1 : 1 ≤ 2 ^ n := Nat.one_le_two_pow
  unfold crc_poly_sum.f crc_below_uint64.f
  rw [if_pos (by omega), mask_is hn']
  show (if _ then _ else _) = _
  rw [if_pos ⟨by omega, by omega, hlen⟩]
  have e : IntKind.u32.wrap ((2 ^ n - 1 : Nat) : Int) = ((2 ^ n - 1 : Nat) : Int) := by rw [IntKind.wrap_u32]; omega
  rw [e, Int.toNat_natCast, sum_is hl hn hn' hp hs]
/-- The sum of whole frames. -/
def cW (l : List Int) : Nat := crun 24 6122955 (cbs l) 16702650
theorem cW_lt (l : List Int) : cW l < 16777216 := crun_lt (n := 24) (by decide) _ _ (by decide)
theorem Whole_is {l : List Int} (hl : IsB l) (hlen : l.length ≤ 9223372036854775806) : crc_Whole.f l = some ((cW l : Nat) : Int) := by
  unfold crc_Whole.f crc_whole.f
  refine bind_to rfl ?_
  refine bind_to (polysum_is (n := 24) (p := 6122955) (s := 16702650) hl hlen (by decide) (by decide) (by decide) (by decide)) ?_
  rfl
/-- A sum's three bytes. -/
def be3 (s : Nat) : List Int := [((s / 65536 % 256 : Nat) : Int), ((s / 256 % 256 : Nat) : Int), ((s % 256 : Nat) : Int)]
theorem be3_b (s : Nat) : IsB (be3 s) := by
  intro x hx
  simp only [be3, List.mem_cons, List.not_mem_nil, or_false] at hx
  rcases hx with rfl | rfl | rfl <;> omega
theorem be3_len (s : Nat) : (be3 s).length = 3 := rfl
theorem shr8 (s : Nat) (i : Nat) (hi : i ≤ 32) : (shr .u32 (s : Int) (i : Int)) = ((s / 2 ^ i : Nat) : Int) := by
  unfold shr
  rw [Int.toNat_natCast, show min i IntKind.u32.bits = i from Nat.min_eq_left (by show i ≤ 32; exact hi), int_div_pow]
theorem Fix_is {l : List Int} (hl : IsB l) (hlen : l.length ≤ 140737488351250) (k : Nat) (hk : 4 ≤ k) : crc_Fix.f k l = some (l ++ be3 (cW l)) := by
  obtain ⟨k, rfl⟩ : ∃ m, k = m + 4 := ⟨k - 4, by omega⟩
  have e0 : wrap64 ((l.length : Int) + 3) = (l.length : Int) + 3 := x_w64 (by omega) (by omega)
  unfold crc_Fix.f
  refine bind_to (Whole_is hl (by omega)) ?_
  rw [e0, if_pos (by omega), if_pos (by omega)]
  refine bind_to rfl ?_
  rw [List.replicate_zero, if_pos (by simp; omega), List.nil_append]
  have hw := cW_lt l
  generalize cW l = s at hw ⊢
  have e2 : shr .u32 (s : Int) (wrap64 (8 * 2)) % 256 = ((s / 65536 % 256 : Nat) : Int) := by
    rw [show wrap64 (8 * 2) = ((16 : Nat) : Int) by unfold wrap64; omega, shr8 _ _ (by omega)]; omega
  have e1 : shr .u32 (s : Int) (wrap64 (8 * 1)) % 256 = ((s / 256 % 256 : Nat) : Int) := by
    rw [show wrap64 (8 * 1) = ((8 : Nat) : Int) by unfold wrap64; omega, shr8 _ _ (by omega)]; omega
  have e0' : shr .u32 (s : Int) (wrap64 (8 * 0)) % 256 = ((s % 256 : Nat) : Int) := by
    rw [show wrap64 (8 * 0) = ((0 : Nat) : Int) by unfold wrap64; omega, shr8 _ _ (by omega)]; omega
  have g2 : 0 ≤ wrap64 (8 * 2) := by unfold wrap64; omega
  have g1 : 0 ≤ wrap64 (8 * 1) := by unfold wrap64; omega
  have g0 : 0 ≤ wrap64 (8 * 0) := by unfold wrap64; omega
  rw [crc_Fix.l0, if_pos (by decide), if_pos g2, if_pos (by omega), e2, show wrap64 (2 - 1) = 1 by unfold wrap64; omega]
  rw [crc_Fix.l0, if_pos (by decide), if_pos g1, if_pos (by simp; omega), e1, show wrap64 (1 - 1) = 0 by unfold wrap64; omega]
  rw [crc_Fix.l0, if_pos (by decide), if_pos g0, if_pos (by simp; omega), e0', show wrap64 (0 - 1) = -1 by unfold wrap64; omega]
  rw [crc_Fix.l0, if_neg (by decide)]
  simp [be3]
def val3 (t : List Int) : Int := crc_gath t
theorem or_shift (a c : Nat) (ha : a < 16777216) (hc : c < 256) : Go.bits .or .u32 (((a : Int) * 256) % 4294967296) ((c : Int) % 4294967296) = ((a * 256 + c : Nat) : Int) := by
  have e1 : ((a : Int) * 256) % 4294967296 = ((a * 256 : Nat) : Int) := by omega
  have e2 : (c : Int) % 4294967296 = (c : Int) := by omega
  have := x_or32 (BitVec.ofNat 32 (a * 256)) (BitVec.ofNat 32 c)
  rw [e1, e2]
  rw [BitVec.toNat_or, BitVec.toNat_ofNat, BitVec.toNat_ofNat, Nat.mod_eq_of_lt (by omega), Nat.mod_eq_of_lt (by omega)] at this
  rw [this]
  congr 1
  rw [Nat.mul_comm, show 256 = 2 ^ 8 from rfl]
  exact (Nat.two_pow_add_eq_or_of_lt (by omega) _).symm
theorem val3_is {a b c : Nat} (ha : a < 256) (hb : b < 256) (hc : c < 256) : val3 [(a : Int), (b : Int), (c : Int)] = ((a * 65536 + b * 256 + c : Nat) : Int) := by
  unfold val3 crc_gath
  rw [List.foldl_cons, List.foldl_cons, List.foldl_cons, List.foldl_nil]
  rw [show (0 : Int) = ((0 : Nat) : Int) from rfl, or_shift 0 a (by omega) ha, or_shift _ b (by omega) hb, or_shift _ c (by omega) hc]
  omega
theorem be3_of {t : List Int} (ht : IsB t) (h3 : t.length = 3) : ∃ s, s < 16777216 ∧ t = be3 s ∧ val3 t = (s : Int) := by
  match t, h3 with
  | [x, y, z], _ =>
    have hx := ht x (by simp)
    have hy := ht y (by simp)
    have hz := ht z (by simp)
    obtain ⟨a, rfl⟩ : ∃ a : Nat, x = (a : Int) := ⟨x.toNat, by omega⟩
    obtain ⟨b, rfl⟩ : ∃ a : Nat, y = (a : Int) := ⟨y.toNat, by omega⟩
    obtain ⟨c, rfl⟩ : ∃ a : Nat, z = (a : Int) := ⟨z.toNat, by omega⟩
    refine ⟨a * 65536 + b * 256 + c, by omega, ?_, val3_is (by omega) (by omega) (by omega)⟩
    unfold be3
    rw [show (a * 65536 + b * 256 + c) / 65536 % 256 = a by omega, show (a * 65536 + b * 256 + c) / 256 % 256 = b by omega, show (a * 65536 + b * 256 + c) % 256 = c by omega]
theorem be3_inj {s t : Nat} (hs : s < 16777216) (ht : t < 16777216) (h : be3 s = be3 t) : s = t := by
  unfold be3 at h
  simp only [List.cons.injEq, and_true] at h
  omega
/-- Is the sum behind that of the bytes ahead? -/
def isGood (l : List Int) : Prop := 3 ≤ l.length ∧ l.drop (l.length - 3) = be3 (cW (l.take (l.length - 3)))
instance (l : List Int) : Decidable (isGood l) := inferInstanceAs (Decidable (_ ∧ _))
theorem Good_is {l : List Int} (hl : IsB l) (hlen : l.length ≤ 9223372036854775806) : crc_Good.f l = some (decide (isGood l)) := by
  unfold crc_Good.f
  rw [if_pos hlen]
  by_cases h : l.length < 3
  · rw [if_pos (by omega)]
    congr 1
    exact (decide_eq_false (fun h' => by have := h'.1; omega)).symm
  · rw [if_neg (by omega)]
    have e3 : (l.drop (l.length - 3)).length = 3 := by rw [List.length_drop]; omega
    obtain ⟨s, hs, e4, e5⟩ := be3_of (IsB.drop hl _) e3
    have hw := cW_lt (l.take (l.length - 3))
    refine bind_to (Whole_is (IsB.take hl _) (by rw [List.length_take]; omega)) ?_
    have e6 := e5
    unfold val3 at e6
    rw [e6]
    congr 1
    rw [Bool.eq_iff_iff, beq_iff_eq, decide_eq_true_eq]
    constructor
    · intro h'
      refine ⟨by omega, ?_⟩
      rw [e4, show s = cW (l.take (l.length - 3)) by omega]
    · intro h'
      have := h'.2
      rw [e4] at this
      rw [be3_inj hs hw this]
theorem good_fix (l : List Int) : isGood (l ++ be3 (cW l)) := by
  unfold isGood
  rw [List.length_append, be3_len, Nat.add_sub_cancel, List.drop_left, List.take_left]
  exact ⟨by omega, rfl⟩
theorem good_iff (l : List Int) (h3 : 3 ≤ l.length) : isGood l ↔ l.take (l.length - 3) ++ be3 (cW (l.take (l.length - 3))) = l := by
  unfold isGood
  constructor
  · rintro ⟨_, h⟩
    rw [← h, List.take_append_drop]
  · intro h
    refine ⟨h3, ?_⟩
    have := List.take_append_drop (l.length - 3) l
    exact List.append_cancel_left (this.trans h.symm)
theorem awake_is (k : Nat) (hk : 4 ≤ k) : carillonlaw05_awake.f k = some true := by
  have hb : IsB [1, 2, 3] := by
    intro x hx
    simp only [List.mem_cons, List.not_mem_nil, or_false] at hx
    rcases hx with rfl | rfl | rfl <;> omega
  unfold carillonlaw05_awake.f
  refine bind_to (Fix_is hb (by simp) k hk) ?_
  refine bind_to (Good_is (IsB.append hb (be3_b _)) (by simp [be3_len])) ?_
  rw [decide_eq_true (good_fix _)]
theorem dbl_xor (n s t : Nat) : 2 * (s ^^^ t) % 2 ^ n = (2 * s % 2 ^ n) ^^^ (2 * t % 2 ^ n) := by
  have e : ∀ x, 2 * x = x <<< 1 := fun x => by rw [Nat.shiftLeft_eq]; omega
  rw [e, e, e, Nat.shiftLeft_xor_distrib, Nat.xor_mod_two_pow]
theorem xor_bits {a b : Nat} (h : ∀ i, a.testBit i = b.testBit i) : a = b := Nat.eq_of_testBit_eq h
theorem cstep_xor (n p s t : Nat) (b c : Bool) : cstep n p (s ^^^ t) (b != c) = cstep n p s b ^^^ cstep n p t c := by
  unfold cstep
  rw [dbl_xor, Nat.testBit_xor]
  generalize 2 * s % 2 ^ n = A
  generalize 2 * t % 2 ^ n = B
  generalize s.testBit (n - 1) = x
  generalize t.testBit (n - 1) = y
  have e1 : A ^^^ B ^^^ p = (A ^^^ p) ^^^ B := by apply xor_bits; intro i; simp only [Nat.testBit_xor]; cases A.testBit i <;> cases B.testBit i <;> cases p.testBit i <;> rfl
  have e2 : A ^^^ B ^^^ p = A ^^^ (B ^^^ p) := by apply xor_bits; intro i; simp only [Nat.testBit_xor]; cases A.testBit i <;> cases B.testBit i <;> cases p.testBit i <;> rfl
  have e3 : A ^^^ B = (A ^^^ p) ^^^ (B ^^^ p) := by apply xor_bits; intro i; simp only [Nat.testBit_xor]; cases A.testBit i <;> cases B.testBit i <;> cases p.testBit i <;> rfl
  cases x <;> cases y <;> cases b <;> cases c <;> first | rfl | exact e1 | exact e2 | exact e3
theorem crun_xor (n p : Nat) (f g h : Nat → Bool) : ∀ (js : List Nat) (s t : Nat), (∀ j ∈ js, h j = (f j != g j)) → crun n p (js.map h) (s ^^^ t) = crun n p (js.map f) s ^^^ crun n p (js.map g) t := by
  intro js
  induction js with
  | nil => intro s t _; rfl
  | cons j js ih =>
    intro s t hj
    have e := ih (cstep n p s (f j)) (cstep n p t (g j)) (fun i hi => hj i (List.mem_cons_of_mem _ hi))
    rw [← cstep_xor, ← hj j (by simp)] at e
    exact e
def bxor (x y : Int) : Int := Go.bits .xor .u8 x y
theorem bxor_is {x y : Int} (hx : 0 ≤ x ∧ x < 256) (hy : 0 ≤ y ∧ y < 256) : bxor x y = ((x.toNat ^^^ y.toNat : Nat) : Int) ∧ 0 ≤ bxor x y ∧ bxor x y < 256 := by
  have e : bxor x y = ((x.toNat ^^^ y.toNat : Nat) : Int) := by
    have := x_xor8 (BitVec.ofNat 8 x.toNat) (BitVec.ofNat 8 y.toNat)
    simp only [BitVec.toNat_xor, BitVec.toNat_ofNat, Nat.mod_eq_of_lt (show x.toNat < 2 ^ 8 by omega), Nat.mod_eq_of_lt (show y.toNat < 2 ^ 8 by omega)] at this
    rw [show ((x.toNat : Nat) : Int) = x by omega, show ((y.toNat : Nat) : Int) = y by omega] at this
    exact this
  have hlt : x.toNat ^^^ y.toNat < 2 ^ 8 := Nat.xor_lt_two_pow (by omega) (by omega)
  rw [e]
  exact ⟨rfl, by omega, by omega⟩
theorem zip_b {a b : List Int} (ha : IsB a) (hb : IsB b) : IsB (List.zipWith bxor a b) := by
  intro z hz
  rw [List.mem_iff_getElem] at hz
  obtain ⟨i, hi, rfl⟩ := hz
  rw [List.length_zipWith] at hi
  rw [List.getElem_zipWith]
  exact (bxor_is (ha.get (by omega)) (hb.get (by omega))).2
theorem cbit_zip {a b : List Int} (ha : IsB a) (hb : IsB b) (hl : a.length = b.length) (j : Nat) (hj : j < a.length * 8) : cbit (List.zipWith bxor a b) j = (cbit a j != cbit b j) := by
  unfold cbit
  have h1 : j / 8 < a.length := by omega
  have h2 : j / 8 < b.length := by omega
  have h3 : j / 8 < (List.zipWith bxor a b).length := by rw [List.length_zipWith]; omega
  simp only [List.getD_eq_getElem?_getD, List.getElem?_eq_getElem h1, List.getElem?_eq_getElem h2, List.getElem?_eq_getElem h3, Option.getD_some]
  rw [List.getElem_zipWith, (bxor_is (ha.get h1) (hb.get h2)).1, Int.toNat_natCast, Nat.testBit_xor]
theorem crun_zip {a b : List Int} (ha : IsB a) (hb : IsB b) (hl : a.length = b.length) (n p s t : Nat) : crun n p (cbs (List.zipWith bxor a b)) (s ^^^ t) = crun n p (cbs a) s ^^^ crun n p (cbs b) t := by
  unfold cbs
  rw [List.length_zipWith, show min a.length b.length = a.length by omega, ← hl]
  apply crun_xor
  intro j hj
  rw [List.mem_range] at hj
  exact cbit_zip ha hb hl j hj
theorem crun_append (n p : Nat) (a b : List Bool) (s : Nat) : crun n p (a ++ b) s = crun n p b (crun n p a s) := List.foldl_append
theorem two_mul_testBit (s i : Nat) : (2 * s).testBit (i + 1) = s.testBit i := by
  have e : 2 * s = s <<< 1 := by rw [Nat.shiftLeft_eq]; omega
  rw [e, Nat.testBit_shiftLeft]
  simp
theorem odd_bit (a : Nat) : a.testBit 0 = decide (a % 2 = 1) := by simp
/-- A run that ends at nothing has read the register's own bits. -/
theorem crun_zero {n p : Nat} (hn : 1 ≤ n) (hp : p < 2 ^ n) (ho : p % 2 = 1) : ∀ (bs : List Bool) (s : Nat), bs.length ≤ n → s < 2 ^ n → crun n p bs s = 0 → s % 2 ^ (n - bs.length) = 0 ∧ ∀ i, (h : i < bs.length) → bs[i] = s.testBit (n - 1 - i) := by
  intro bs
  induction bs with
  | nil =>
    intro s _ hs h
    have h : s = 0 := h
    subst h
    exact ⟨by simp, fun i h => by simp at h⟩
  | cons b bs ih =>
    intro s hl hs h
    rw [List.length_cons] at hl
    obtain ⟨h1, h2⟩ := ih (cstep n p s b) (by omega) (cstep_lt hp) h
    have hk : n - bs.length = (n - (b :: bs).length) + 1 := by rw [List.length_cons]; omega
    have heven : cstep n p s b % 2 = 0 := by
      have hd : 2 ∣ 2 ^ (n - bs.length) := by rw [hk, Nat.pow_succ]; exact Nat.dvd_mul_left _ _
      exact Nat.mod_eq_zero_of_dvd (Nat.dvd_trans hd (Nat.dvd_of_mod_eq_zero h1))
    have h2n : 2 ∣ 2 ^ n := by
      obtain ⟨m, rfl⟩ : ∃ m, n = m + 1 := ⟨n - 1, by omega⟩
      rw [Nat.pow_succ]; exact Nat.dvd_mul_left _ _
    have hA : (2 * s % 2 ^ n) % 2 = 0 := by rw [Nat.mod_mod_of_dvd _ h2n]; omega
    have hb : (s.testBit (n - 1) != b) = false := by
      cases hx : (s.testBit (n - 1) != b)
      · rfl
      · exfalso
        unfold cstep at heven
        rw [if_pos hx] at heven
        have e := odd_bit (2 * s % 2 ^ n ^^^ p)
        rw [Nat.testBit_xor, odd_bit, odd_bit, hA, ho, heven] at e
        simp at e
    have hbs : b = s.testBit (n - 1) := by
      cases hx : s.testBit (n - 1) <;> cases b <;> rw [hx] at hb <;> first | rfl | cases hb
    have hc : cstep n p s b = 2 * s % 2 ^ n := by unfold cstep; rw [hb]; rfl
    rw [hc] at h1 h2
    constructor
    · have hd : 2 ^ (n - bs.length) ∣ 2 ^ n := Nat.pow_dvd_pow 2 (by omega)
      rw [Nat.mod_mod_of_dvd _ hd, hk, Nat.pow_succ, Nat.mul_comm _ 2, Nat.mul_mod_mul_left] at h1
      omega
    · intro i hi
      cases i with
      | zero => simpa using hbs
      | succ i =>
        rw [List.length_cons] at hi
        have h3 := h2 i (by omega)
        rw [List.getElem_cons_succ, h3, Nat.testBit_mod_two_pow, show n - 1 - i = (n - 1 - (i + 1)) + 1 by omega, two_mul_testBit]
        simp
        omega
theorem crun_own {n p : Nat} (hp : p < 2 ^ n) : ∀ (bs : List Bool) (s : Nat), bs.length ≤ n → s < 2 ^ n → (∀ i, (h : i < bs.length) → bs[i] = s.testBit (n - 1 - i)) → crun n p bs s = s * 2 ^ bs.length % 2 ^ n := by
  intro bs
  induction bs with
  | nil => intro s _ hs _; rw [List.length_nil, Nat.pow_zero, Nat.mul_one, Nat.mod_eq_of_lt hs]; rfl
  | cons b bs ih =>
    intro s hl hs h
    rw [List.length_cons] at hl
    have h0 : b = s.testBit (n - 1) := h 0 (by rw [List.length_cons]; omega)
    have hc : cstep n p s b = 2 * s % 2 ^ n := by unfold cstep; rw [h0]; simp
    have hrun : crun n p (b :: bs) s = crun n p bs (2 * s % 2 ^ n) := by rw [← hc]; rfl
    rw [hrun, ih (2 * s % 2 ^ n) (by omega) (Nat.mod_lt _ (Nat.two_pow_pos n)), List.length_cons, Nat.mod_mul_mod, Nat.pow_succ, show 2 * s * 2 ^ bs.length = s * (2 ^ bs.length * 2) by rw [Nat.mul_comm 2 s, Nat.mul_assoc, Nat.mul_comm 2]]
    intro i hi
    have h3 := h (i + 1) (by rw [List.length_cons]; omega)
    rw [List.getElem_cons_succ] at h3
    rw [h3, Nat.testBit_mod_two_pow, show n - 1 - i = (n - 1 - (i + 1)) + 1 by omega, two_mul_testBit]
    simp
    omega
theorem cbs_append (a b : List Int) : cbs (a ++ b) = cbs a ++ cbs b := by
  unfold cbs
  rw [List.length_append, Nat.add_mul, List.range_add, List.map_append, List.map_map]
  congr 1
  · apply List.map_congr_left
    intro j hj
    rw [List.mem_range] at hj
    unfold cbit
    rw [List.getD_eq_getElem?_getD, List.getD_eq_getElem?_getD, List.getElem?_append_left (by omega)]
  · apply List.map_congr_left
    intro j hj
    unfold cbit
    simp only [Function.comp]
    rw [List.getD_eq_getElem?_getD, List.getD_eq_getElem?_getD, show (a.length * 8 + j) / 8 = a.length + j / 8 by omega, show (a.length * 8 + j) % 8 = j % 8 by omega, List.getElem?_append_right (by omega), Nat.add_sub_cancel_left]
theorem be3_bit (s : Nat) (hs : s < 16777216) (i : Nat) (hi : i < 24) : cbit (be3 s) i = s.testBit (23 - i) := by
  unfold cbit be3
  have h : i / 8 = 0 ∨ i / 8 = 1 ∨ i / 8 = 2 := by omega
  rcases h with h | h | h
  · rw [h, List.getD_cons_zero, Int.toNat_natCast, show 256 = 2 ^ 8 from rfl, Nat.testBit_mod_two_pow, show 65536 = 2 ^ 16 from rfl, Nat.testBit_div_two_pow, show 7 - i % 8 + 16 = 23 - i by omega]
    simp; omega
  · rw [h, List.getD_cons_succ, List.getD_cons_zero, Int.toNat_natCast, show 256 = 2 ^ 8 from rfl, Nat.testBit_mod_two_pow, Nat.testBit_div_two_pow, show 7 - i % 8 + 8 = 23 - i by omega]
    simp; omega
  · rw [h, List.getD_cons_succ, List.getD_cons_succ, List.getD_cons_zero, Int.toNat_natCast, show 256 = 2 ^ 8 from rfl, Nat.testBit_mod_two_pow, show 7 - i % 8 = 23 - i by omega]
    simp; omega
theorem tail_zero (s v : Nat) (hs : s < 16777216) (hv : v < 16777216) : crun 24 6122955 (cbs (be3 v)) s = 0 ↔ v = s := by
  have hlen : (cbs (be3 v)).length = 24 := by unfold cbs; rw [List.length_map, List.length_range]; rfl
  have hget : ∀ i, (h : i < (cbs (be3 v)).length) → (cbs (be3 v))[i] = v.testBit (23 - i) := by
    intro i hi
    rw [hlen] at hi
    simp only [cbs, List.getElem_map, List.getElem_range]
    exact be3_bit v hv i hi
  constructor
  · intro h
    obtain ⟨_, h2⟩ := crun_zero (n := 24) (p := 6122955) (by decide) (by decide) (by decide) _ s (by omega) hs h
    apply Nat.eq_of_testBit_eq
    intro j
    by_cases hj : j < 24
    · have e1 := h2 (23 - j) (by omega)
      rw [hget _ (by omega), show 23 - (23 - j) = j by omega] at e1
      exact e1
    · rw [Nat.testBit_lt_two_pow (x := v) (Nat.lt_of_lt_of_le hv (by rw [show 16777216 = 2 ^ 24 from rfl]; exact Nat.pow_le_pow_right (by decide) (by omega))), Nat.testBit_lt_two_pow (x := s) (Nat.lt_of_lt_of_le hs (by rw [show 16777216 = 2 ^ 24 from rfl]; exact Nat.pow_le_pow_right (by decide) (by omega)))]
  · rintro rfl
    rw [crun_own (n := 24) (p := 6122955) (by decide) _ v (by omega) hv hget, hlen]
    exact Nat.mul_mod_left _ _
theorem isGood_iff {l : List Int} (hl : IsB l) (h3 : 3 ≤ l.length) : isGood l ↔ crun 24 6122955 (cbs l) 16702650 = 0 := by
  obtain ⟨v, hv, e, _⟩ := be3_of (IsB.drop hl (l.length - 3)) (by rw [List.length_drop]; omega)
  have hw := cW_lt (l.take (l.length - 3))
  have hc : cbs l = cbs (l.take (l.length - 3)) ++ cbs (be3 v) := by rw [← e, ← cbs_append, List.take_append_drop]
  rw [hc, crun_append]
  show _ ↔ crun 24 6122955 (cbs (be3 v)) (cW (l.take (l.length - 3))) = 0
  rw [tail_zero _ v hw hv]
  unfold isGood
  rw [e]
  constructor
  · intro h; exact be3_inj hv hw h.2
  · intro h; exact ⟨h3, by rw [h]⟩
theorem crun_all0 (n p : Nat) (f : Nat → Bool) : ∀ js : List Nat, (∀ j ∈ js, f j = false) → crun n p (js.map f) 0 = 0 := by
  intro js
  induction js with
  | nil => intro _; rfl
  | cons j js ih =>
    intro h
    have e : cstep n p 0 (f j) = 0 := by rw [h j (by simp)]; unfold cstep; simp
    show crun n p (js.map f) (cstep n p 0 (f j)) = 0
    rw [e]
    exact ih (fun i hi => h i (List.mem_cons_of_mem _ hi))
theorem crun_ne {n p : Nat} (hn : 1 ≤ n) (hp : p < 2 ^ n) (ho : p % 2 = 1) (f : Nat → Bool) : ∀ (js : List Nat) (s : Nat), s < 2 ^ n → s ≠ 0 → (∀ j ∈ js, f j = false) → crun n p (js.map f) s ≠ 0 := by
  intro js
  induction js with
  | nil => intro s _ h _; exact h
  | cons j js ih =>
    intro s hs h hj
    refine ih _ (cstep_lt hp) ?_ (fun i hi => hj i (List.mem_cons_of_mem _ hi))
    intro h0
    have h0' : crun n p [f j] s = 0 := h0
    obtain ⟨h1, h2⟩ := crun_zero hn hp ho [f j] s (by simpa using hn) hs h0'
    have h3 := h2 0 (by simp)
    rw [List.getElem_cons_zero, hj j (by simp)] at h3
    have h4 : s < 2 ^ (n - 1) := by
      apply Nat.lt_of_not_le
      intro hle
      have : s.testBit (n - 1) = true := by
        rw [Nat.testBit_eq_decide_div_mod_eq]
        have e : s / 2 ^ (n - 1) = 1 := by
          apply Nat.div_eq_of_lt_le
          · omega
          · have : 2 ^ n = 2 ^ (n - 1) * 2 := by rw [← Nat.pow_succ]; congr 1; omega
            omega
        rw [e]; rfl
      rw [show n - 1 - 0 = n - 1 from rfl, this] at h3
      cases h3
    rw [List.length_singleton, Nat.mod_eq_of_lt h4] at h1
    exact h h1
/-- Bits within 24 side by side that leave nothing are none. -/
theorem burst_none (f : Nat → Bool) (N at_ : Nat) (hf : ∀ j, j < N → f j = true → at_ ≤ j ∧ j < at_ + 24) : crun 24 6122955 ((List.range N).map f) 0 = 0 ↔ ∀ j, j < N → f j = false := by
  constructor
  · intro h
    by_cases ha : N ≤ at_
    · intro j hj
      cases hx : f j
      · rfl
      · have := hf j hj hx; omega
    · obtain ⟨k, z, hk, hN⟩ : ∃ k z, k ≤ 24 ∧ N = at_ + k + z ∧ (z = 0 ∨ k = 24) := by
        by_cases h24 : N - at_ ≤ 24
        · exact ⟨N - at_, 0, h24, by omega, .inl rfl⟩
        · exact ⟨24, N - at_ - 24, by omega, by omega, .inr rfl⟩
      obtain ⟨hN, hz⟩ := hN
      have e : List.range N = List.range' 0 at_ ++ (List.range' at_ k ++ List.range' (at_ + k) z) := by
        rw [List.range_eq_range', hN, List.range'_append_1, Nat.add_assoc]
        have := List.range'_append_1 (s := 0) (m := at_) (n := k + z)
        rw [Nat.zero_add] at this
        rw [this]
      rw [e, List.map_append, List.map_append, crun_append, crun_append] at h
      have h0 : crun 24 6122955 ((List.range' 0 at_).map f) 0 = 0 := crun_all0 _ _ f _ (fun j hj => by
        rw [List.mem_range'_1] at hj
        cases hx : f j
        · rfl
        · have := hf j (by omega) hx; omega)
      rw [h0] at h
      have hmid : crun 24 6122955 ((List.range' at_ k).map f) 0 = 0 := by
        apply Classical.byContradiction
        intro hne
        refine crun_ne (n := 24) (p := 6122955) (by decide) (by decide) (by decide) f _ _ (crun_lt (by decide) _ _ (by decide)) hne ?_ h
        intro j hj
        rw [List.mem_range'_1] at hj
        cases hx : f j
        · rfl
        · have := hf j (by omega) hx; omega
      obtain ⟨_, h2⟩ := crun_zero (n := 24) (p := 6122955) (by decide) (by decide) (by decide) _ 0 (by rw [List.length_map, List.length_range']; exact hk) (by decide) hmid
      intro j hj
      cases hx : f j
      · rfl
      · have hw := hf j hj hx
        have h3 := h2 (j - at_) (by rw [List.length_map, List.length_range']; omega)
        rw [List.getElem_map, List.getElem_range', Nat.one_mul, show at_ + (j - at_) = j by omega, hx] at h3
        simp at h3
  · intro h
    exact crun_all0 _ _ f _ (fun j hj => h j (List.mem_range.1 hj))
/-- The bits of a burst. -/
def bB (at_ M l j : Nat) : Bool := decide (at_ ≤ j ∧ j < at_ + M) && l.testBit (31 - (j - at_))
def Bits (E : List Int) (n at_ M l : Nat) : Prop := IsB E ∧ E.length = n ∧ ∀ j, j < n * 8 → cbit E j = bB at_ M l j
theorem or_bit {x : Int} (hx : 0 ≤ x ∧ x < 256) (b : Bool) (c : Nat) (hc : c ≤ 7) : ∃ y : Nat, Go.bits .or .u8 x (shl .u8 (((b.toNat : Nat) : Int) % 256) (c : Int)) = (y : Int) ∧ y < 256 ∧ ∀ i, y.testBit i = (x.toNat.testBit i || (b && decide (c = i))) := by
  have e1 : shl .u8 (((b.toNat : Nat) : Int) % 256) (c : Int) = ((b.toNat * 2 ^ c : Nat) : Int) := by
    unfold shl
    rw [Int.toNat_natCast, show min c IntKind.u8.bits = c from Nat.min_eq_left (by show c ≤ 8; omega), IntKind.wrap_u8]
    have h2 : 2 ^ c ≤ 2 ^ 7 := Nat.pow_le_pow_right (by decide) hc
    have h3 : ((2 : Int) ^ c) = ((2 ^ c : Nat) : Int) := by simp
    rw [h3]
    generalize 2 ^ c = z at h2 ⊢
    cases b
    · simp
    · simp
      omega
  have hlt : b.toNat * 2 ^ c < 256 := by
    have h2 : 2 ^ c ≤ 2 ^ 7 := Nat.pow_le_pow_right (by decide) hc
    generalize 2 ^ c = z at h2 ⊢
    cases b
    · simp
    · simp; omega
  have e2 := x_or8 (BitVec.ofNat 8 x.toNat) (BitVec.ofNat 8 (b.toNat * 2 ^ c))
  simp only [BitVec.toNat_or, BitVec.toNat_ofNat, Nat.mod_eq_of_lt (show x.toNat < 2 ^ 8 by omega), Nat.mod_eq_of_lt (show b.toNat * 2 ^ c < 2 ^ 8 by omega)] at e2
  rw [show ((x.toNat : Nat) : Int) = x by omega] at e2
  rw [e1]
  refine ⟨_, e2, Nat.or_lt_two_pow (n := 8) (by omega) (by omega), fun i => ?_⟩
  rw [Nat.testBit_or]
  congr 1
  cases b
  · simp
  · simp [Nat.testBit_two_pow]
theorem burst_loop (n at_ l M : Nat) (hn : n ≤ 4096) (hl : l < 4294967296) (hM : M ≤ 32) (hM2 : at_ + M ≤ n * 8) : ∀ (d i k : Nat) (x : List Int), i + d = M → d < k → Bits x n at_ i l → ∃ E, crc_Burst.l0 k (at_ : Int) (l : Int) x (M : Int) (i : Int) = some E ∧ Bits E n at_ M l := by
  intro d
  induction d with
  | zero =>
    intro i k x hi hk hx
    obtain ⟨k, rfl⟩ : ∃ m, k = m + 1 := ⟨k - 1, by omega⟩
    obtain rfl : i = M := by omega
    rw [crc_Burst.l0, if_neg (by omega)]
    exact ⟨x, rfl, hx⟩
  | succ d ih =>
    intro i k x hi hk hx
    obtain ⟨k, rfl⟩ : ∃ m, k = m + 1 := ⟨k - 1, by omega⟩
    obtain ⟨hb, hlen, hbits⟩ := hx
    have e0 : wrap64 ((at_ : Int) + (i : Int)) = ((at_ + i : Nat) : Int) := by rw [x_w64 (by omega) (by omega)]; omega
    have e1 : wrap64 (Int.tdiv ((at_ + i : Nat) : Int) 8) = (((at_ + i) / 8 : Nat) : Int) := by rw [x_tdiv _ _ (by omega), x_w64 (by omega) (by omega)]; omega
    have e2 : wrap64 (31 - (i : Int)) = ((31 - i : Nat) : Int) := by rw [x_w64 (by omega) (by omega)]; omega
    have e3 : wrap64 (7 - (Int.tmod ((at_ + i : Nat) : Int) 8)) = ((7 - (at_ + i) % 8 : Nat) : Int) := by rw [x_tmod _ _ (by omega), if_pos (by omega), x_w64 (by omega) (by omega)]; omega
    have hq : (at_ + i) / 8 < x.length := by omega
    have e4 : Go.bits .and .u32 (shr .u32 (l : Int) ((31 - i : Nat) : Int)) 1 = (((l.testBit (31 - i)).toNat : Nat) : Int) := by
      rw [shr8 _ _ (by omega)]
      have := n_and32 (l / 2 ^ (31 - i)) 1 (Nat.lt_of_le_of_lt (Nat.div_le_self _ _) hl) (by omega)
      rw [tb_toNat] at this
      exact this
    obtain ⟨y, hy, hy2, hy3⟩ := or_bit (hb.get hq) (l.testBit (31 - i)) (7 - (at_ + i) % 8) (by omega)
    rw [crc_Burst.l0, if_pos (by omega), e0, e1, e2, e3, if_pos (by omega), if_pos (by omega), if_pos (by omega), if_pos (by omega), e4, rd_get x _ hq, hy, Int.toNat_natCast, wsucc i (by omega)]
    refine ih (i + 1) k _ (by omega) (by omega) ⟨?_, by rw [List.length_set]; exact hlen, ?_⟩
    · intro z hz
      rcases List.mem_or_eq_of_mem_set hz with h | h
      · exact hb z h
      · subst h; omega
    · intro j hj
      have hold := hbits j hj
      unfold cbit at hold ⊢
      have hjl : j / 8 < x.length := by omega
      rw [List.getD_eq_getElem?_getD, List.getElem?_eq_getElem hjl, Option.getD_some] at hold
      rw [List.getD_eq_getElem?_getD, List.getElem?_eq_getElem (by rw [List.length_set]; exact hjl), Option.getD_some, List.getElem_set]
      by_cases hjq : (at_ + i) / 8 = j / 8
      · rw [if_pos hjq, Int.toNat_natCast, hy3]
        have hxq : x[(at_ + i) / 8] = x[j / 8] := by congr 1
        rw [hxq, hold]
        unfold bB
        by_cases hji : j = at_ + i
        · subst hji
          have h1 : ¬ (at_ ≤ at_ + i ∧ at_ + i < at_ + i) := by omega
          have h2 : at_ ≤ at_ + i ∧ at_ + i < at_ + (i + 1) := by omega
          simp [h1, h2]
        · have h1 : ¬ (7 - (at_ + i) % 8 = 7 - j % 8) := by omega
          have h2 : (at_ ≤ j ∧ j < at_ + (i + 1)) ↔ (at_ ≤ j ∧ j < at_ + i) := by omega
          simp only [h1, h2, decide_false, Bool.and_false, Bool.or_false]
      · rw [if_neg hjq, hold]
        unfold bB
        have h2 : (at_ ≤ j ∧ j < at_ + (i + 1)) ↔ (at_ ≤ j ∧ j < at_ + i) := by
          have : j ≠ at_ + i := fun h => hjq (by rw [h])
          omega
        simp only [h2]
theorem bits_zero (n at_ l : Nat) : Bits (List.replicate n 0) n at_ 0 l := by
  refine ⟨?_, List.length_replicate, ?_⟩
  · intro x hx
    rw [List.mem_replicate] at hx
    omega
  · intro j hj
    have h1 : ¬ (at_ ≤ j ∧ j < at_ + 0) := by omega
    unfold cbit bB
    rw [List.getD_eq_getElem?_getD, List.getElem?_replicate]
    simp only [h1, decide_false, Bool.false_and]
    split <;> simp
theorem Burst_is (n at_ l : Nat) (hn : n ≤ 4096) (ha : at_ ≤ n * 8) (hl : l < 4294967296) (k : Nat) (hk : 35 ≤ k) : ∃ E, crc_Burst.f k (n : Int) (at_ : Int) (l : Int) = some E ∧ Bits E n at_ (min 32 (n * 8 - at_)) l := by
  obtain ⟨k, rfl⟩ : ∃ m, k = m + 2 := ⟨k - 2, by omega⟩
  have e8 : wrap64 (8 * (n : Int)) = ((n * 8 : Nat) : Int) := by rw [x_w64 (by omega) (by omega)]; omega
  unfold crc_Burst.f
  rw [if_neg (by omega), decide_eq_false (show ¬ ((n : Int) > 4096) by omega), crc_Burst.j0, if_neg (by decide), if_pos (by omega), if_pos (by omega)]
  rw [Option.bind_some, if_neg (by omega), e8, Int.toNat_natCast]
  by_cases h : at_ = n * 8
  · rw [decide_eq_true (show (at_ : Int) ≥ ((n * 8 : Nat) : Int) by omega), crc_Burst.j1, if_pos rfl, show min 32 (n * 8 - at_) = 0 by omega]
    exact ⟨_, rfl, bits_zero n at_ l⟩
  · have em : mn 32 (wrap64 (((n * 8 : Nat) : Int) - (at_ : Int))) = ((min 32 (n * 8 - at_) : Nat) : Int) := by
      rw [x_w64 (by omega) (by omega)]
      unfold mn
      split <;> omega
    rw [decide_eq_false (show ¬ ((at_ : Int) ≥ ((n * 8 : Nat) : Int)) by omega), crc_Burst.j1, if_neg (by decide), e8, em]
    exact burst_loop n at_ l _ hn hl (by omega) (by omega) (min 32 (n * 8 - at_)) 0 k _ (by omega) (by omega) (bits_zero n at_ l)
/-- A burst of at most 24 bits leaves good bytes good just if it is none. -/
theorem burst_good {X E : List Int} (hX : IsB X) (h3 : 3 ≤ X.length) (hg : isGood X) {at_ M l : Nat} (hE : Bits E X.length at_ M l) (hl : l % 256 = 0) : isGood (List.zipWith bxor X E) ↔ ∀ x ∈ E, x = 0 := by
  obtain ⟨hb, hlen, hbits⟩ := hE
  have hzl : (List.zipWith bxor X E).length = X.length := by rw [List.length_zipWith]; omega
  have hz := crun_zip hX hb hlen.symm 24 6122955 16702650 0
  rw [Nat.xor_zero, (isGood_iff hX h3).1 hg, Nat.zero_xor] at hz
  rw [isGood_iff (zip_b hX hb) (by omega), hz]
  have hf : ∀ j, j < E.length * 8 → cbit E j = true → at_ ≤ j ∧ j < at_ + 24 := by
    intro j hj h
    rw [hbits j (by omega)] at h
    unfold bB at h
    rw [Bool.and_eq_true, decide_eq_true_eq] at h
    obtain ⟨⟨h1, h2⟩, h3⟩ := h
    refine ⟨h1, ?_⟩
    apply Classical.byContradiction
    intro h4
    have h5 : 31 - (j - at_) < 8 := by omega
    have h6 : l.testBit (31 - (j - at_)) = false := by
      have e : l = 256 * (l / 256) := by omega
      rw [e, show 256 = 2 ^ 8 from rfl, Nat.testBit_two_pow_mul]
      simp
      omega
    rw [h6] at h3
    cases h3
  unfold cbs
  rw [burst_none (cbit E) (E.length * 8) at_ hf]
  constructor
  · intro h x hx
    obtain ⟨i, hi, rfl⟩ := List.mem_iff_getElem.1 hx
    have hr := hb.get hi
    have hz0 : E[i].toNat = 0 := by
      apply Nat.eq_of_testBit_eq
      intro m
      rw [Nat.zero_testBit]
      by_cases hm : m < 8
      · have h1 := h (i * 8 + (7 - m)) (by omega)
        unfold cbit at h1
        rw [show (i * 8 + (7 - m)) / 8 = i by omega, show 7 - (i * 8 + (7 - m)) % 8 = m by omega, List.getD_eq_getElem?_getD, List.getElem?_eq_getElem hi, Option.getD_some] at h1
        exact h1
      · exact Nat.testBit_lt_two_pow (Nat.lt_of_lt_of_le (show E[i].toNat < 2 ^ 8 by omega) (Nat.pow_le_pow_right (by decide) (by omega)))
    omega
  · intro h j hj
    unfold cbit
    have hi : j / 8 < E.length := by omega
    rw [List.getD_eq_getElem?_getD, List.getElem?_eq_getElem hi, Option.getD_some, h _ (List.getElem_mem hi)]
    exact Nat.zero_testBit _
def FixPost (w : World) (X : List Int) (m : Nat) (e : Ending) (w' : World) : Prop := ∃ A q, e = .returned (.slice A m q) ∧ Aside0 (m ≤ q) ∧ Aside0 (Kd.C (Kd.int .u8) w' A m X) ∧ Aside0 (Below w.heap.size w w')
theorem fix_n (A : Option Addr) (c n m : Nat) (l X : List Int) (w : World) (hn : l.length = n) (hC : Kd.C (Kd.int .u8) w A n l) (hc : n ≤ c) (hb : IsB l) (hlen : n ≤ 140737488351250) (hX : l ++ be3 (cW l) = X) (hm : n + 3 = m) :
    Calls Try.prog 32 #[.slice A n c] w (FixPost w X m) := by
  subst hn
  have hXl : X.length = m := by rw [← hX, List.length_append, be3_len]; exact hm
  refine (crc_Fix.calls 4 A c l X w hC hc (by rw [Fix_is hb hlen 4 (by omega), hX])).mono ?_
  rintro e w' ⟨v, rfl, hv, hbw⟩
  obtain ⟨A', q, rfl, h1, h2⟩ := Kd.R_reads hv
  rw [hXl] at h1 h2 ⊢
  exact ⟨A', q, rfl, ⟨h1⟩, ⟨h2⟩, ⟨hbw⟩⟩
theorem good_n (A : Option Addr) (c n : Nat) (l : List Int) (r : Bool) (w : World) (hn : l.length = n) (hC : Kd.C (Kd.int .u8) w A n l) (hc : n ≤ c) (hb : IsB l) (hlen : n ≤ 140737488351258) (hr : decide (isGood l) = r) :
    Calls Try.prog 33 #[.slice A n c] w fun e w' => e = .returned (.bool r) ∧ Below w.heap.size w w' := by
  subst hn
  exact crc_Good.calls A c l r w hC hc (by rw [Good_is hb (by omega), hr])
theorem awake_n (w : World) : Calls Try.prog 34 #[] w fun e w' => e = .returned (.bool true) ∧ Below w.heap.size w w' := carillonlaw05_awake.calls 4 true w (awake_is 4 (Nat.le_refl _))
theorem str_n (A : Option Addr) (c n : Nat) (l : List Int) (w : World) (hn : l.length = n) (h : Kd.C (Kd.int .u8) w A n l) : ∀ w', Below w.heap.size w w' → (convert 26 9 (.slice A n c)).run Try.prog w' = .ok (.string (strOfNums l)) w' := by
  subst hn
  exact fun w' hb => Kd.C_string (P := Try.prog) (A := A) (c := c) Try.underlying26 Try.underlying5 Try.underlying9 (Kd.C_below h hb)
theorem take_n (A : Option Addr) (c n m : Nat) (l q : List Int) (w : World) (hn : l.length = n) (hm : m ≤ n) (hC : Kd.C (Kd.int .u8) w A n l) (hc : n ≤ c) (hq : l.take m = q) :
    (∀ W : World, (Instr.slice 26 (.slice A n c) none (some (.int .i64 m)) none).run Try.prog W = .ok (.slice A m c) W) ∧ Kd.C (Kd.int .u8) w A m q ∧ q.length = m := by
  subst hn
  have lq : q.length = m := by rw [← hq, List.length_take]; omega
  obtain ⟨i0, hi0, _, hsz, _⟩ := info_parts info5
  obtain ⟨hcut, hA, _⟩ := print_take_of (P := Try.prog) (Value.int .u8) 0 26 5 .i64 Try.underlying26 hi0 hsz A c l (m : Int) (by omega) (by omega) hc
  have h := Kd.C_of_reads (d := (0 : Int)) (h1 := fun _ => rfl) (hA w (Kd.reads_of_C hC))
  rw [Int.toNat_natCast, hq, lq] at hcut h
  exact ⟨hcut, h, lq⟩
theorem burst_n (n at_ l : Nat) (E : List Int) (w : World) (h : crc_Burst.f 35 (n : Int) (at_ : Int) (l : Int) = some E) (hE : E.length = n) (hn : 0 < n) :
    Calls Try.prog 35 #[.int .i64 n, .int .i64 at_, .int .u32 l] w fun e w' => ∃ g q, e = .returned (.slice (some ⟨g, 0, none⟩) n q) ∧ Aside0 (w.heap.size ≤ g) ∧ Aside0 (Kd.R (Kd.int .u8) 5 w' w.heap.size (fun k => k = g) (.slice (some ⟨g, 0, none⟩) n q) E) ∧ Aside0 (Below w.heap.size w w') := by
  subst hE
  refine (crc_Burst.calls 35 _ _ _ E w h).mono ?_
  rintro e w' ⟨v, rfl, hv, hb⟩
  obtain ⟨g, q, rfl, h1, h2, _⟩ := Kd.R_form hv hn
  exact ⟨g, q, rfl, ⟨h1⟩, ⟨Kd.R_mono (Kd.R_tight rfl hv) (fun k hk => by simpa [Value.ownBlock] using hk)⟩, ⟨hb⟩⟩
theorem fix_r (A : Option Addr) (c n m : Nat) (l X : List Int) (w : World) (hn : l.length = n) (hC : Kd.C (Kd.int .u8) w A n l) (hc : n ≤ c) (hb : IsB l) (hlen : n ≤ 140737488351250) (hX : l ++ be3 (cW l) = X) (hm : n + 3 = m) :
    Calls Try.prog 32 #[.slice A n c] w fun e w' => ∃ g q, e = .returned (.slice (some ⟨g, 0, none⟩) m q) ∧ Aside0 (w.heap.size ≤ g ∧ g < w'.heap.size) ∧ Aside0 (Kd.R (Kd.int .u8) 5 w' w.heap.size (fun k => k = g) (.slice (some ⟨g, 0, none⟩) m q) X) ∧ Aside0 (Below w.heap.size w w') := by
  subst hn
  have hXl : X.length = m := by rw [← hX, List.length_append, be3_len]; exact hm
  refine (crc_Fix.calls 4 A c l X w hC hc (by rw [Fix_is hb hlen 4 (by omega), hX])).mono ?_
  rintro e w' ⟨v, rfl, hv, hbw⟩
  obtain ⟨g, q, rfl, h1, h2, _⟩ := Kd.R_form hv (by omega)
  rw [hXl] at hv ⊢
  exact ⟨g, q, rfl, ⟨h1, h2⟩, ⟨Kd.R_mono (Kd.R_tight rfl hv) (fun k hk => by simpa [Value.ownBlock] using hk)⟩, ⟨hbw⟩⟩
/-- the bytes when i have been turned -/
def turned (X E : List Int) (i : Nat) : List Int := List.zipWith bxor (X.take i) (E.take i) ++ X.drop i
theorem turned_len {X E : List Int} (h : E.length = X.length) {i : Nat} (hi : i ≤ X.length) : (turned X E i).length = X.length := by
  unfold turned
  rw [List.length_append, List.length_zipWith, List.length_take, List.length_take, List.length_drop]
  omega
theorem turned_get {X E : List Int} (h : E.length = X.length) {i : Nat} (hi : i < X.length) : (turned X E i).getD i 0 = X.getD i 0 := by
  unfold turned
  have hl : (List.zipWith bxor (X.take i) (E.take i)).length = i := by rw [List.length_zipWith, List.length_take, List.length_take]; omega
  rw [List.getD_eq_getElem?_getD, List.getD_eq_getElem?_getD, List.getElem?_append_right (by omega), hl, Nat.sub_self, List.getElem?_drop, Nat.add_zero]
theorem turned_set {X E : List Int} (h : E.length = X.length) {i : Nat} (hi : i < X.length) : (turned X E i).set i (bxor (X.getD i 0) (E.getD i 0)) = turned X E (i + 1) := by
  unfold turned
  have hl : (List.zipWith bxor (X.take i) (E.take i)).length = i := by rw [List.length_zipWith, List.length_take, List.length_take]; omega
  rw [List.set_append_right _ _ (by omega), hl, Nat.sub_self, List.drop_eq_getElem_cons hi, List.set_cons_zero]
  rw [List.take_succ_eq_append_getElem hi, List.take_succ_eq_append_getElem (show i < E.length by omega), List.zipWith_append (by rw [List.length_take, List.length_take]; omega), List.append_assoc]
  congr 1
  rw [List.getD_eq_getElem?_getD, List.getElem?_eq_getElem hi, List.getD_eq_getElem?_getD, List.getElem?_eq_getElem (show i < E.length by omega)]
  rfl
theorem turned_all {X E : List Int} (h : E.length = X.length) : turned X E X.length = List.zipWith bxor X E := by
  unfold turned
  rw [List.take_of_length_le (Nat.le_refl _), List.take_of_length_le (by omega), List.drop_of_length_le (Nat.le_refl _), List.append_nil]
def noneOf (E : List Int) (i : Nat) : Bool := decide (∀ x ∈ E.take i, x = 0)
theorem noneOf_succ (E : List Int) (i : Nat) (hi : i < E.length) : noneOf E (i + 1) = (noneOf E i && (E.getD i 0 == 0)) := by
  unfold noneOf
  rw [List.take_succ_eq_append_getElem hi, Bool.eq_iff_iff, Bool.and_eq_true, decide_eq_true_eq, decide_eq_true_eq, beq_iff_eq, List.getD_eq_getElem?_getD, List.getElem?_eq_getElem hi]
  constructor
  · intro h
    exact ⟨fun x hx => h x (List.mem_append.2 (.inl hx)), h _ (List.mem_append.2 (.inr (by simp)))⟩
  · rintro ⟨h1, h2⟩ x hx
    rcases List.mem_append.1 hx with h | h
    · exact h1 x h
    · rw [List.mem_singleton] at h
      rw [h]; exact h2
set_option maxHeartbeats 8000000 in
set_option maxRecDepth 100000 in
theorem CrcBursts : carillonlaw05_CrcBursts.Pure := by
  intro A0 c0 l a1 a2 w hr0 hc0 hm y0 hw0 w1 w2
  have hb := IsB.wf hw0
  obtain ⟨n, hn⟩ : ∃ n, l.length = n := ⟨_, rfl⟩
  have hlim : n ≤ 140737488351232 := by omega
  have hp := x_wf32 w2
  have ha : 0 ≤ a1 ∧ a1 < 65536 := by simp [Lit.wf, IntKind.min, IntKind.max, IntKind.signed, IntKind.bits] at w1; omega
  rw [hn] at hr0 hc0 ⊢
  obtain ⟨a, rfl⟩ : ∃ a : Nat, a1 = (a : Int) := ⟨a1.toNat, by omega⟩
  obtain ⟨p, rfl⟩ : ∃ a : Nat, a2 = (a : Int) := ⟨a2.toNat, by omega⟩
  have HR0 := Aside0.mk hr0
  have HC0 := Aside0.mk hc0
  have HB0 := Aside0.mk hb
  have HN := Aside0.mk hn
  clear hr0 hc0 hm y0 hw0 hb hn w1 w2
  by_cases hbig : 2000 < n
  · have hbig' : decide ((n : Int) > 2000) = true := decide_eq_true (by omega)
    go_enter Try.func11, Try.ntmps11
    go_wp2_with (go_at_call 34; refine (awake_n _).mono ?_; rintro e w1 ⟨rfl, hb⟩; have HB := Aside0.mk hb; clear hb)
    go_ret
    exact ⟨rfl, HB.out⟩
  · have hn2 : n ≤ 2000 := by omega
    obtain ⟨X, hX⟩ : ∃ X, l ++ be3 (cW l) = X := ⟨_, rfl⟩
    have hXl : X.length = n + 3 := by rw [← hX, List.length_append, be3_len, HN.out]
    have hXb : IsB X := by rw [← hX]; exact IsB.append HB0.out (be3_b _)
    have hXg : isGood X := by rw [← hX]; exact good_fix l
    obtain ⟨E, hE, hEB⟩ := Burst_is (n + 3) (a % ((n + 3) * 8 + 1)) (p / 256 * 256) (by omega) (by have := Nat.mod_lt a (show 0 < (n + 3) * 8 + 1 by omega); omega) (by omega) 35 (by omega)
    have hEl : E.length = n + 3 := hEB.2.1
    have hgood := burst_good hXb (by omega) hXg (by rw [hXl]; exact hEB) (show p / 256 * 256 % 256 = 0 from Nat.mul_mod_left _ _)
    obtain ⟨m, hm⟩ : ∃ m, n + 3 = m := ⟨_, rfl⟩
    rw [hm] at hXl hE hEB hEl
    have hm3 : 3 ≤ m := by omega
    have hm2 : m ≤ 2003 := by omega
    have HX := Aside0.mk hX
    have HXL := Aside0.mk hXl
    have HXB := Aside0.mk hXb
    have HXG := Aside0.mk (decide_eq_true hXg)
    have HE := Aside0.mk hE
    have HEB := Aside0.mk hEB
    have HEL := Aside0.mk hEl
    have HG := Aside0.mk hgood
    have HM := Aside0.mk hm
    clear hX hXl hXb hXg hE hEB hEl hgood hm
    go_enter Try.func11, Try.ntmps11
    go_wp2_with fail
    refine (fix_r A0 c0 n m l X w HN.out HR0.out HC0.out HB0.out (by omega) HX.out HM.out).mono ?_
    rintro e w1 ⟨gx, qx, rfl, KX1, KX2, KXB⟩
    have hmod : Int.tmod (a : Int) (wrap64 (8 * (m : Int)) + 1) = ((a % (m * 8 + 1) : Nat) : Int) := by
      rw [x_w64 (by omega) (by omega), x_tmod _ _ (by omega), if_pos (by omega), show 8 * (m : Int) + 1 = ((m * 8 + 1 : Nat) : Int) by omega]
      exact (Int.natCast_emod _ _).symm
    have hdiv : ((p : Int) / 256 * 256) % 4294967296 = ((p / 256 * 256 : Nat) : Int) := by omega
    go_wp2_with fail
    have hat : (a : Int) % (8 * (m : Int) + 1) = ((a % (m * 8 + 1) : Nat) : Int) := by
      rw [show 8 * (m : Int) + 1 = ((m * 8 + 1 : Nat) : Int) by omega]
      exact (Int.natCast_emod _ _).symm
    have hpp : (p : Int) / 256 * 256 = ((p / 256 * 256 : Nat) : Int) := by omega
    rw [hat, hpp]
    refine (burst_n m (a % (m * 8 + 1)) (p / 256 * 256) E w1 HE.out HEL.out (by omega)).mono ?_
    rintro e w2 ⟨ge, qe, rfl, KE1, KE2, KEB⟩
    have hne : gx ≠ ge := by have := KX1.out.2; have := KE1.out; omega
    have KXR := Aside0.mk (Kd.R_below KX2.out KEB.out)
    have KB2 := Aside0.mk (below_step KXB.out KEB.out)
    have KXC := Kd.R_reads' KXR.out
    have hqx : m ≤ qx := KXC.2.1
    have KC := Aside0.mk (show Kd.C (Kd.int .u8) w2 (some ⟨gx, 0, none⟩) m X by have := KXC.2.2; rwa [HXL.out] at this)
    clear hat hpp hmod hdiv KX2 KXB KEB KXC
    go_wp2_with (go_at_call 33; refine (good_n (some ⟨gx, 0, none⟩) qx m X true _ HXL.out KC.out hqx HXB.out (by omega) HXG.out).mono ?_; rintro e w3 ⟨rfl, hb3⟩)
    have KX3 := Aside0.mk (Kd.R_below KXR.out hb3)
    have KE3 := Aside0.mk (Kd.R_below KE2.out hb3)
    have KB3 := Aside0.mk (below_step KB2.out hb3)
    clear KXR KE2 KB2 KC hb3
    go_wp2_with fail
    have hn0 : noneOf E 0 = true := by unfold noneOf; simp
    have ht0 : turned X E 0 = X := by unfold turned; simp
    go_loopw [9, 10] (fun v9 v10 wr => ∃ i : Nat, i ≤ m ∧ v10 = .int .i64 i ∧ v9 = .bool (noneOf E i) ∧ Aside0 (Kd.R (Kd.int .u8) 5 wr w.heap.size (fun k => k = gx) (.slice (some ⟨gx, 0, none⟩) m qx) (turned X E i)) ∧ Aside0 (Kd.R (Kd.int .u8) 5 wr w1.heap.size (fun k => k = ge) (.slice (some ⟨ge, 0, none⟩) m qe) E) ∧ Aside0 (Below w.heap.size w wr)) (fun _ v10 _ => m - (intOf v10).toNat)
    case atStart => exact ⟨0, by omega, rfl, by rw [hn0], by rw [ht0]; exact KX3, KE3, KB3⟩
    case round =>
      clear KX3 KE3 KB3 hn0 ht0
      obtain ⟨i, hi, rfl, rfl, KX, KE, KB⟩ := hrel
      by_cases hlt : i < m
      · obtain ⟨hx, hf⟩ := Kd.R_celln (0 : Int) KX.out (i : Int) (by omega) (by omega)
        obtain ⟨he, _⟩ := Kd.R_celln (0 : Int) KE.out (i : Int) (by omega) (by omega)
        rw [Int.toNat_natCast] at hx hf he
        have ex : rdOf 0 (turned X E i) (i : Int) = X.getD i 0 := by
          show (turned X E i).getD (i : Int).toNat 0 = _
          rw [Int.toNat_natCast]
          exact turned_get (HEL.out.trans HXL.out.symm) (by rw [HXL.out]; exact hlt)
        have ey : rdOf 0 E (i : Int) = E.getD i 0 := by
          show E.getD (i : Int).toNat 0 = _
          rw [Int.toNat_natCast]
        have es := turned_set (X := X) (E := E) (HEL.out.trans HXL.out.symm) (i := i) (by rw [HXL.out]; exact hlt)
        have en := noneOf_succ E i (by rw [HEL.out]; exact hlt)
        rw [ex] at hx
        rw [ey] at he
        obtain ⟨x, hxx⟩ : ∃ x, X.getD i 0 = x := ⟨_, rfl⟩
        obtain ⟨y, hyy⟩ : ∃ y, E.getD i 0 = y := ⟨_, rfl⟩
        obtain ⟨b, hbb⟩ : ∃ b, noneOf E i = b := ⟨_, rfl⟩
        rw [hxx] at hx es
        rw [hyy] at he es en
        rw [hbb] at en ⊢
        have HES := Aside0.mk es
        have HEN := Aside0.mk en
        have he2 : ∀ v, (wr.setCell ⟨gx, i, none⟩ v).cell? ⟨ge, i, none⟩ = some (.int .u8 y) := fun v => (World.cell?_of_block (w := wr) (Below.heap_setCell wr _ _ ge (Ne.symm hne))).trans he
        have HNE := Aside0.mk hne
        clear ex ey es en hxx hyy hbb hne
        cases b
        · go_wp2
          go_region
          go_wp2
          go_roundw
          case rel =>
            have hput := Kd.R_putn KX.out (i : Int) (Go.bits .xor .u8 x y)
            rw [Int.toNat_natCast] at hput
            have hes := HES.out
            unfold bxor at hes
            rw [hes] at hput
            refine ⟨i + 1, by omega, by simp, by rw [HEN.out]; rfl, ⟨Kd.R_drew hput⟩, ⟨Kd.R_drew (Kd.R_far KE.out (p := ⟨gx, i, none⟩) (fun k hk e_ => HNE.out (e_.symm.trans hk)) _)⟩, ⟨below_drew (below_set KB.out (by have := KX1.out; exact this.1))⟩⟩
          case measure => simp [intOf]; omega
        · go_wp2
          go_region
          go_wp2
          go_roundw
          case rel =>
            have hput := Kd.R_putn KX.out (i : Int) (Go.bits .xor .u8 x y)
            rw [Int.toNat_natCast] at hput
            have hes := HES.out
            unfold bxor at hes
            rw [hes] at hput
            refine ⟨i + 1, by omega, by simp, by rw [HEN.out]; simp, ⟨Kd.R_drew hput⟩, ⟨Kd.R_drew (Kd.R_far KE.out (p := ⟨gx, i, none⟩) (fun k hk e_ => HNE.out (e_.symm.trans hk)) _)⟩, ⟨below_drew (below_set KB.out (by have := KX1.out; exact this.1))⟩⟩
          case measure => simp [intOf]; omega
      · obtain rfl : i = m := by omega
        have hall : turned X E i = List.zipWith bxor X E := by rw [← HXL.out]; exact turned_all (HEL.out.trans HXL.out.symm)
        have hzl : (List.zipWith bxor X E).length = i := by rw [List.length_zipWith, HXL.out, HEL.out, Nat.min_self]
        have hzb : IsB (List.zipWith bxor X E) := zip_b HXB.out HEB.out.1
        have hgn : decide (isGood (List.zipWith bxor X E)) = noneOf E i := by
          unfold noneOf
          rw [List.take_of_length_le (by rw [HEL.out]; exact Nat.le_refl _), decide_eq_decide]
          exact HG.out
        rw [hall] at KX
        have hKC := (Kd.R_reads' KX.out).2.2
        rw [hzl] at hKC
        obtain ⟨b, hbb⟩ : ∃ b, noneOf E i = b := ⟨_, rfl⟩
        rw [hbb] at hgn ⊢
        have HKC := Aside0.mk hKC
        have HZL := Aside0.mk hzl
        have HZB := Aside0.mk hzb
        have HGN := Aside0.mk hgn
        clear hall hzl hzb hgn hKC hbb
        go_wp2_with (first
          | (go_at_call 33; refine (good_n (some ⟨gx, 0, none⟩) qx i _ b _ HZL.out HKC.out hqx HZB.out (by omega) HGN.out).mono ?_; rintro e w4 ⟨rfl, hb4⟩; have HB4 := Aside0.mk (below_step KB.out hb4); clear hb4)
          | (go_at_call 34; refine (awake_n _).mono ?_; rintro e w5 ⟨rfl, hb5⟩; have HB5 := Aside0.mk (below_step HB4.out hb5); clear hb5))
        go_ret
        exact ⟨rfl, HB5.out⟩
end Go.Proofs.Ytedgfhnjmlefnaa.Pure
