/- Proved: carillonlaw01.WordUndone returns true: bytes xor others, and again, are themselves; xor themselves they are noughts; of two lengths Xor tells ErrArg. Conditions: none. -/
import Derived.Test.YtedgfhnjmlefnaaPWordx2
import Derived.Test.YtedgfhnjmlefnaaX1Pure
namespace Go.Proofs.Ytedgfhnjmlefnaa.Pure
open Go.RowKit Go.Proofs.Ytedgfhnjmlefnaa.PWord Go.Proofs.YtedgfhnjmlefnaaW.PrintWords Go.Proofs.YtedgfhnjmlefnaaW.PrintLast Go.Proofs.YtedgfhnjmlefnaaW.PrintMore
set_option linter.unusedVariables false
set_option linter.unusedSimpArgs false
def rg5.T6 : Bool × List (List Nat × List Nat) := (true, [([], []), ([0], [0]), ([1], [1]), ([2], [2]), ([3, 2], [2, 3]), ([2, 4], [2, 4]), ([5, 2], [5]), ([6], [6]), ([7, 6], [6, 7]), ([6, 8], [6, 8]), ([9, 6], [9]), ([10], [10]), ([11, 10], [10, 11]), ([10], [10]), ([13, 10], [10, 13]), ([12, 14, 10], [10, 12, 14]), ([10, 15], [10, 15]), ([16, 10], [16]), ([17], [17]), ([18, 17], [17, 18]), ([17], [17]), ([20, 17], [17, 20]), ([21, 21, 17], [17, 21]), ([22, 17], [17, 22]), ([19, 23, 17], [17, 19, 23]), ([17, 24], [17, 24]), ([25, 17], [25]), ([26], [26]), ([26], [26]), ([27, 28, 26, 26], [26, 27, 28]), ([26], [26]), ([26], [26]), ([30, 31, 29, 26], [26, 30, 31]), ([29, 32, 26], [26, 29, 32]), ([26, 33], [26, 33]), ([34, 32], [34]), ([35, 35], [35]), ([35, 36], [35, 36]), ([37, 36, 0, 1, 2, 3, 4, 5, 6, 7, 8, 9, 10, 11, 12, 13, 14, 15, 16, 17, 18, 19, 20, 21, 22, 23, 24, 25, 26, 27, 28, 29, 30, 31, 32, 33, 34, 35, 36, 37], [37])])
def rg5.B6 : List Nat := [0, 1, 3, 7, 15, 31, 63, 127, 255, 511, 1023, 2047, 4095, 2047, 10239, 32767, 65535, 131071, 262143, 524287, 262143, 1310719, 3407871, 7602175, 16777215, 33554431, 67108863, 134217727, 134217727, 536870911, 134217727, 134217727, 4294967295, 8589934591, 17179869183, 34359738367, 68719476735, 137438953471, 274877906943]
theorem rg5.tab6 : rtab .any (opsOf Try.f5 6) = rg5.T6 := by kernel_rfl
theorem rg5.bits6 : waitsOk rg5.T6.2 rg5.B6 = true := by kernel_rfl
theorem turn_is (x : BitVec 32) (n : Int) (h0 : -9223372036854775808 ≤ n) (h1 : n ≤ 9223372036854775807) : word_Turn.f (x.toNat : Int) n = some ((rotr x (n % 32).toNat).toNat : Int) := by
  have e1 : Int.tmod (IntKind.u64.wrap (wrap64 ((Int.tmod n 32) + 32))) 32 = n % 32 := by
    rw [x_tmod n 32 (by omega)]
    have e2 : wrap64 ((if 0 ≤ n then n % 32 else -((-n) % 32)) + 32) = (if 0 ≤ n then n % 32 else -((-n) % 32)) + 32 := by
      apply x_w64 <;> split <;> omega
    rw [e2, x_wrap_u64', x_tmod _ 32 (by omega)]
    split <;> split <;> omega
  unfold word_Turn.f
  rw [e1]
  have e3 : IntKind.u64.wrap (32 - n % 32) = 32 - n % 32 := by rw [x_wrap_u64']; omega
  rw [e3, if_pos (by omega), if_pos (by omega)]
  obtain ⟨k, hk⟩ : ∃ k : Nat, n % 32 = (k : Int) := ⟨(n % 32).toNat, by omega⟩
  have hk32 : k ≤ 32 := by omega
  rw [hk, show (32 : Int) - (k : Int) = ((32 - k : Nat) : Int) by omega, x_shr32 _ _ hk32, x_shl32 _ _ (by omega), x_or32]
  rfl
theorem awake_is : carillonlaw01_awake.f = some true := by
  have := turn_is 1 1 (by omega) (by omega)
  unfold carillonlaw01_awake.f
  rw [show ((1 : BitVec 32).toNat : Int) = 1 from rfl] at this
  rw [this]
  decide
/-! Xor and Same, as the code has them. -/
def xorL (a b : List Int) : List Int := List.zipWith (Go.bits .xor .u8) a b
theorem xorL_len {a b : List Int} (h : a.length = b.length) : (xorL a b).length = a.length := by simp [xorL, h]
theorem own_is (l : List Int) (n : Int) (h0 : 0 ≤ n) (h : (l.length : Int) + n ≤ 281474976710656) : word_own.f l n = some l := by
  unfold word_own.f; rw [if_pos ⟨h0, h⟩]
theorem xor_drop {a b : List Int} {i : Nat} (ha : i < a.length) (hb : i < b.length) : xorL (a.drop i) (b.drop i) = Go.bits .xor .u8 a[i] b[i] :: xorL (a.drop (i + 1)) (b.drop (i + 1)) := by
  unfold xorL; rw [List.drop_eq_getElem_cons ha, List.drop_eq_getElem_cons hb, List.zipWith_cons_cons]
theorem xor_loop (a b : List Int) (hl : a.length = b.length) (hn : a.length ≤ 9223372036854775806) : ∀ (d k i : Nat) (p : List Int), i + d = a.length → d < k → p.length = i →
    word_Xor.l0 k (p ++ a.drop i) b (b.length : Int) (i : Int) = some (p ++ xorL (a.drop i) (b.drop i), 0) := by
  intro d
  induction d with
  | zero =>
    intro k i p hi hk hp
    obtain ⟨k, rfl⟩ : ∃ m, k = m + 1 := ⟨k - 1, by omega⟩
    simp only [word_Xor.l0]
    rw [if_neg (by omega), List.drop_of_length_le (by omega), List.drop_of_length_le (by omega)]
    simp [xorL]
  | succ d ih =>
    intro k i p hi hk hp
    obtain ⟨k, rfl⟩ : ∃ m, k = m + 1 := ⟨k - 1, by omega⟩
    simp only [word_Xor.l0]
    rw [if_pos (by omega), if_pos (by omega), if_pos (by omega), if_pos (by simp; omega)]
    have e3 : wrap64 ((i : Int) + 1) = ((i + 1 : Nat) : Int) := by unfold wrap64; omega
    have e4 : rd (p ++ a.drop i) (i : Int) = a[i]'(by omega) := by
      rw [rd_get _ _ (by simp; omega), List.getElem_append_right (by omega)]
      simp [hp]
    have e5 : (p ++ a.drop i).set (Int.toNat (i : Int)) (Go.bits .xor .u8 (a[i]'(by omega)) (b[i]'(by omega))) = (p ++ [Go.bits .xor .u8 (a[i]'(by omega)) (b[i]'(by omega))]) ++ a.drop (i + 1) := by
      rw [List.drop_eq_getElem_cons (show i < a.length by omega), Int.toNat_natCast, List.set_append_right _ _ (by omega)]
      simp only [hp, Nat.sub_self, List.set_cons_zero, List.append_assoc, List.singleton_append]
    rw [e3, e4, rd_get b i (by omega), e5, ih k (i + 1) _ (by omega) (by omega) (by simp [hp]), @xor_drop a b i (by omega) (by omega)]
    simp
theorem xor_is (a b : List Int) (hn : a.length ≤ 140737488351232) : ∀ k, a.length < k → word_Xor.f k a b = some (if a.length = b.length then (xorL a b, 0) else ([], 1)) := by
  intro k hk
  unfold word_Xor.f
  by_cases h : a.length = b.length
  · rw [if_pos (by omega), if_pos h, own_is _ _ (by omega) (by omega)]
    have := xor_loop a b h (by omega) a.length k 0 [] (by omega) hk rfl
    simpa using this
  · rw [if_neg (by omega), if_neg h]
theorem rxor_loop (a b : List Int) (hl : a.length = b.length) (hn : a.length ≤ 140737488351232) : ∀ (d k i : Nat) (p : List Int), i + d = a.length → d < k → p.length = i →
    carillonref01_Xor.l0 k a b p (i : Int) = some (p ++ xorL (a.drop i) (b.drop i), 0) := by
  intro d
  induction d with
  | zero =>
    intro k i p hi hk hp
    obtain ⟨k, rfl⟩ : ∃ m, k = m + 1 := ⟨k - 1, by omega⟩
    simp only [carillonref01_Xor.l0]
    rw [if_neg (by omega), List.drop_of_length_le (by omega), List.drop_of_length_le (by omega)]
    simp [xorL]
  | succ d ih =>
    intro k i p hi hk hp
    obtain ⟨k, rfl⟩ : ∃ m, k = m + 1 := ⟨k - 1, by omega⟩
    simp only [carillonref01_Xor.l0]
    rw [if_pos (by omega), if_pos (by omega), if_pos (by omega), if_pos (by omega)]
    have e3 : wrap64 ((i : Int) + 1) = ((i + 1 : Nat) : Int) := by unfold wrap64; omega
    rw [e3, rd_get a i (by omega), rd_get b i (by omega), ih k (i + 1) _ (by omega) (by omega) (by simp [hp]), @xor_drop a b i (by omega) (by omega)]
    simp
theorem rxor_is (a b : List Int) (hn : a.length ≤ 140737488351232) : ∀ k, a.length < k → carillonref01_Xor.f k a b = some (if a.length = b.length then (xorL a b, 0) else ([], 1)) := by
  intro k hk
  unfold carillonref01_Xor.f
  by_cases h : a.length = b.length
  · rw [if_pos (by omega), if_pos h]
    have := rxor_loop a b h hn a.length k 0 [] (by omega) hk rfl
    simpa using this
  · rw [if_neg (by omega), if_neg h]
theorem xor_byte {x y : Int} (hx0 : 0 ≤ x) (hx1 : x < 256) (hy0 : 0 ≤ y) (hy1 : y < 256) : 0 ≤ Go.bits .xor .u8 x y ∧ Go.bits .xor .u8 x y < 256 ∧ (Go.bits .xor .u8 x y = 0 ↔ x = y) ∧ Go.bits .xor .u8 (Go.bits .xor .u8 x y) y = x := by
  obtain ⟨a, rfl⟩ := x_as8 hx0 hx1
  obtain ⟨b, rfl⟩ := x_as8 hy0 hy1
  rw [x_xor8, x_xor8]
  have := (a ^^^ b).isLt
  refine ⟨by omega, by omega, ?_, ?_⟩
  · constructor
    · intro h
      have h1 : a ^^^ b = 0#8 := BitVec.eq_of_toNat_eq (by show (a ^^^ b).toNat = 0; omega)
      have : a = b := by
        have h2 : (a ^^^ b) ^^^ b = 0#8 ^^^ b := by rw [h1]
        rw [BitVec.xor_assoc, BitVec.xor_self, BitVec.xor_zero, BitVec.zero_xor] at h2
        exact h2
      rw [this]
    · intro h
      have : a = b := BitVec.eq_of_toNat_eq (by omega)
      rw [this, BitVec.xor_self]; rfl
  · rw [BitVec.xor_assoc, BitVec.xor_self, BitVec.xor_zero]
theorem xorL_b {a b : List Int} (ha : IsB a) (hb : IsB b) : IsB (xorL a b) := by
  intro x hx
  obtain ⟨i, hi, rfl⟩ := List.getElem_of_mem hx
  have h1 : i < a.length ∧ i < b.length := by simp [xorL] at hi; omega
  have := ha.get h1.1
  have := hb.get h1.2
  have := xor_byte (ha.get h1.1).1 (ha.get h1.1).2 (hb.get h1.2).1 (hb.get h1.2).2
  simp [xorL]
  exact ⟨this.1, this.2.1⟩
theorem or_byte {x y : Int} (hx0 : 0 ≤ x) (hx1 : x < 256) (hy0 : 0 ≤ y) (hy1 : y < 256) : 0 ≤ Go.bits .or .u8 x y ∧ Go.bits .or .u8 x y < 256 ∧ (Go.bits .or .u8 x y = 0 ↔ x = 0 ∧ y = 0) := by
  obtain ⟨a, rfl⟩ := x_as8 hx0 hx1
  obtain ⟨b, rfl⟩ := x_as8 hy0 hy1
  rw [x_or8]
  have := (a ||| b).isLt
  refine ⟨by omega, by omega, ?_⟩
  rw [BitVec.toNat_or]
  constructor
  · intro h
    have h1 : a.toNat ≤ a.toNat ||| b.toNat := Nat.left_le_or
    have h2 : b.toNat ≤ a.toNat ||| b.toNat := Nat.right_le_or
    omega
  · rintro ⟨h1, h2⟩
    have h1 : a.toNat = 0 := by omega
    have h2 : b.toNat = 0 := by omega
    simp [h1, h2]
theorem same_loop (a b : List Int) (ha : IsB a) (hb : IsB b) (hl : a.length = b.length) (hn : a.length ≤ 140737488351232) : ∀ (d k i : Nat) (x : Int), i + d = a.length → d < k → 0 ≤ x → x < 256 →
    word_Same.l0 k a b x (a.length : Int) (i : Int) = some (decide (x = 0 ∧ a.drop i = b.drop i)) := by
  intro d
  induction d with
  | zero =>
    intro k i x hi hk hx0 hx1
    obtain ⟨k, rfl⟩ : ∃ m, k = m + 1 := ⟨k - 1, by omega⟩
    simp only [word_Same.l0]
    rw [if_neg (by omega), List.drop_of_length_le (by omega), List.drop_of_length_le (by omega)]
    simp
    rw [Bool.eq_iff_iff]; simp
  | succ d ih =>
    intro k i x hi hk hx0 hx1
    obtain ⟨k, rfl⟩ : ∃ m, k = m + 1 := ⟨k - 1, by omega⟩
    simp only [word_Same.l0]
    rw [if_pos (by omega), if_pos (by omega), if_pos (by omega), if_pos (by omega)]
    have e3 : wrap64 ((i : Int) + 1) = ((i + 1 : Nat) : Int) := by unfold wrap64; omega
    have ga := ha.get (show i < a.length by omega)
    have gb := hb.get (show i < b.length by omega)
    have hx := xor_byte ga.1 ga.2 gb.1 gb.2
    have ho := or_byte hx0 hx1 hx.1 hx.2.1
    rw [e3, rd_get a i (by omega), rd_get b i (by omega), ih k (i + 1) _ (by omega) (by omega) ho.1 ho.2.1, List.drop_eq_getElem_cons (show i < a.length by omega), List.drop_eq_getElem_cons (show i < b.length by omega)]
    congr 1
    rw [decide_eq_decide, ho.2.2, hx.2.2.1, List.cons.injEq, and_assoc]
theorem same_is (a b : List Int) (ha : IsB a) (hb : IsB b) (hn : a.length ≤ 140737488351232) : ∀ k, a.length < k → word_Same.f k a b = some (decide (a = b)) := by
  intro k hk
  unfold word_Same.f
  by_cases h : a.length = b.length
  · rw [if_pos (by omega)]
    have := same_loop a b ha hb h hn a.length k 0 0 (by omega) hk (by omega) (by omega)
    simpa using this
  · rw [if_neg (by omega)]
    simp
    intro e; exact h (by rw [e])
theorem xorL_self (a : List Int) (h : IsB a) : xorL a a = List.replicate a.length 0 := by
  apply List.ext_getElem
  · simp [xorL]
  · intro i h1 h2
    have h3 : i < a.length := by simp [xorL] at h1; exact h1
    have := h.get h3
    have := (xor_byte this.1 this.2 this.1 this.2).2.2.1.2 rfl
    simpa [xorL] using this
theorem xorL_back (a b : List Int) (ha : IsB a) (hb : IsB b) (hl : a.length = b.length) : xorL (xorL a b) b = a := by
  apply List.ext_getElem
  · simp [xorL, hl]
  · intro i h1 h2
    have h3 : i < b.length := by omega
    have ga := ha.get h2
    have gb := hb.get h3
    have := (xor_byte ga.1 ga.2 gb.1 gb.2).2.2.2
    simpa [xorL] using this
theorem xorL_nil_iff (a b : List Int) (ha : IsB a) (hb : IsB b) (hl : a.length = b.length) : xorL a b = List.replicate a.length 0 ↔ a = b := by
  constructor
  · intro h
    apply List.ext_getElem hl
    intro i h1 h2
    have ga := ha.get h1
    have gb := hb.get h2
    have h3 : (xorL a b)[i]'(by simp [xorL]; omega) = 0 := by simp only [h, List.getElem_replicate]
    simp [xorL] at h3
    exact (xor_byte ga.1 ga.2 gb.1 gb.2).2.2.1.1 h3
  · rintro rfl
    exact xorL_self a ha
def XorPost (w : World) (x : List Int) (c : Int) (e : Ending) (w' : World) : Prop := ∃ A n, e = .returned (.tuple #[.slice A x.length n, .int .i64 c]) ∧ Aside0 (x.length ≤ n) ∧ Aside0 (Kd.C (Kd.int .u8) w' A x.length x) ∧ Aside0 (Below w.heap.size w w')
theorem xor_yes (A0 : Option Addr) (c0 : Nat) (l0 : List Int) (A1 : Option Addr) (c1 : Nat) (l1 x : List Int) (w : World) (hr0 : Kd.C (Kd.int .u8) w A0 l0.length l0) (hc0 : l0.length ≤ c0) (hr1 : Kd.C (Kd.int .u8) w A1 l1.length l1) (hc1 : l1.length ≤ c1) (hn : l0.length ≤ 140737488351232) (hl : l0.length = l1.length) (hx : xorL l0 l1 = x) :
    Calls Try.prog 17 #[.slice A0 l0.length c0, .slice A1 l1.length c1] w (XorPost w x 0) := by
  refine (word_Xor.calls (l0.length + 1) A0 c0 l0 A1 c1 l1 x 0 w hr0 hc0 hr1 hc1 (by rw [xor_is l0 l1 hn _ (by omega), if_pos hl, hx])).mono ?_
  rintro e w' ⟨v, rfl, hv, hb⟩
  obtain ⟨A, n, rfl, h1, h2⟩ := Kd.R_reads hv
  exact ⟨A, n, rfl, ⟨h1⟩, ⟨h2⟩, ⟨hb⟩⟩
theorem xor_no (A0 : Option Addr) (c0 : Nat) (l0 : List Int) (A1 : Option Addr) (c1 : Nat) (l1 : List Int) (w : World) (hr0 : Kd.C (Kd.int .u8) w A0 l0.length l0) (hc0 : l0.length ≤ c0) (hr1 : Kd.C (Kd.int .u8) w A1 l1.length l1) (hc1 : l1.length ≤ c1) (hn : l0.length ≤ 140737488351232) (hl : l0.length ≠ l1.length) :
    Calls Try.prog 17 #[.slice A0 l0.length c0, .slice A1 l1.length c1] w (XorPost w [] 1) := by
  refine (word_Xor.calls (l0.length + 1) A0 c0 l0 A1 c1 l1 [] 1 w hr0 hc0 hr1 hc1 (by rw [xor_is l0 l1 hn _ (by omega), if_neg hl])).mono ?_
  rintro e w' ⟨v, rfl, hv, hb⟩
  obtain ⟨A, n, rfl, h1, h2⟩ := Kd.R_reads hv
  exact ⟨A, n, rfl, ⟨h1⟩, ⟨h2⟩, ⟨hb⟩⟩
theorem same_yes (A0 : Option Addr) (c0 : Nat) (l0 : List Int) (A1 : Option Addr) (c1 : Nat) (l1 : List Int) (r : Bool) (w : World) (hr0 : Kd.C (Kd.int .u8) w A0 l0.length l0) (hc0 : l0.length ≤ c0) (hr1 : Kd.C (Kd.int .u8) w A1 l1.length l1) (hc1 : l1.length ≤ c1) (hn : l0.length ≤ 140737488351232) (h0 : IsB l0) (h1 : IsB l1) (hr : decide (l0 = l1) = r) :
    Calls Try.prog 19 #[.slice A0 l0.length c0, .slice A1 l1.length c1] w fun e w' => e = .returned (.bool r) ∧ Drawn0 w w' :=
  word_Same.calls (l0.length + 1) A0 c0 l0 A1 c1 l1 r w hr0 hc0 hr1 hc1 (by rw [same_is l0 l1 h0 h1 hn _ (by omega), hr])
theorem str_run (A : Option Addr) (c : Nat) (l : List Int) (w : World) (h : Kd.C (Kd.int .u8) w A l.length l) : ∀ w', Below w.heap.size w w' → (convert 26 9 (.slice A l.length c)).run Try.prog w' = .ok (.string (strOfNums l)) w' :=
  fun w' hb => Kd.C_string (P := Try.prog) (A := A) (c := c) Try.underlying26 Try.underlying5 Try.underlying9 (Kd.C_below h hb)
set_option maxHeartbeats 4000000 in
theorem WordUndone : carillonlaw01_WordUndone.Pure := by
  intro A0 c0 a A1 c1 b w hr0 hc0 _ y0 hw0 hr1 hc1 _ y1 hw1
  have ba := IsB.wf hw0
  have bb := IsB.wf hw1
  have HBA := Aside0.mk ba
  have HBB := Aside0.mk bb
  have HR0 := Aside0.mk hr0
  have HR1 := Aside0.mk hr1
  have HC0 := Aside0.mk hc0
  have HC1 := Aside0.mk hc1
  have HN := Aside0.mk (show a.length ≤ 140737488351232 by omega)
  have hna : a.length ≤ 140737488351232 := by omega
  have hnb : b.length ≤ 140737488351232 := by omega
  clear hr0 hr1 hc0 hc1 hw0 hw1 ba bb y0 y1
  by_cases hl : a.length = b.length
  · have HL := Aside0.mk hl
    have hln : ((a.length : Int) == (b.length : Int)) = true := by simp [hl]
    clear hl
    obtain ⟨x, hx⟩ : ∃ x, xorL a b = x := ⟨_, rfl⟩
    have hx1 : x.length = a.length := by rw [← hx]; exact xorL_len HL.out
    have hx2 : IsB x := by rw [← hx]; exact xorL_b HBA.out HBB.out
    have hxz : xorL x b = a := by rw [← hx]; exact xorL_back a b HBA.out HBB.out HL.out
    have haa := xorL_self a HBA.out
    have hxe : decide (x = List.replicate a.length 0) = decide (a = b) := by rw [decide_eq_decide, ← hx]; exact xorL_nil_iff a b HBA.out HBB.out HL.out
    obtain ⟨z, hz⟩ : ∃ z, List.replicate a.length (0 : Int) = z := ⟨_, rfl⟩
    have hz1 : z.length = a.length := by rw [← hz]; simp
    have hz2 : IsB z := by rw [← hz, ← haa]; exact xorL_b HBA.out HBA.out
    rw [hz] at haa hxe
    obtain ⟨r, hr⟩ : ∃ r, decide (a = b) = r := ⟨_, rfl⟩
    rw [hr] at hxe
    have hzr : ∀ W : World, (convert 26 9 (.slice (some ⟨W.heap.size, 0, none⟩) a.length a.length)).run Try.prog (W.alloc (.cells (madeCells #[.int .u8 0] a.length) 5)).drew = .ok (.string (strOfNums z)) (W.alloc (.cells (madeCells #[.int .u8 0] a.length) 5)).drew := by
      intro W
      have h := own_made W W.heap.size 5 .u8 a.length (Nat.le_refl _) (by omega)
      rw [hz] at h
      exact own_string (P := Try.prog) Try.underlying26 Try.underlying5 Try.underlying9 (pw_own_below h (below_drew (Below.refl _ _)))
    have HX := Aside0.mk hx
    have HX1 := Aside0.mk hx1
    have HX2 := Aside0.mk hx2
    have HXZ := Aside0.mk hxz
    have HAA := Aside0.mk haa
    have HXE := Aside0.mk hxe
    have HZ1 := Aside0.mk hz1
    have HZ2 := Aside0.mk hz2
    have HRR := Aside0.mk hr
    have HXL : x.length ≤ 140737488351232 := by omega
    have HZL : z.length ≤ 140737488351232 := by omega
    clear hx hx1 hx2 hxz haa hxe hz1 hz2 hr hz
    go_enter Try.func5, Try.ntmps5
    go_wp2_with fail
    refine (xor_yes A0 c0 a A1 c1 b x w HR0.out HC0.out HR1.out HC1.out HN.out HL.out HX.out).mono ?_
    rintro e w1 ⟨Ax, nx, rfl, KX1, KX2, KXB⟩
    go_wp2_with fail
    refine (xor_yes Ax nx x A1 c1 b a w1 KX2.out KX1.out (Kd.C_below HR1.out KXB.out) HC1.out HXL (HX1.out.trans HL.out) HXZ.out).mono ?_
    rintro e w2 ⟨Ay, ny, rfl, KY1, KY2, KYB⟩
    have KX3 := Aside0.mk (Kd.C_below KX2.out KYB.out)
    have KYB0 := Aside0.mk (below_step KXB.out KYB.out)
    go_wp2_with fail
    refine (xor_yes A0 c0 a A0 c0 a z w2 (Kd.C_below HR0.out KYB0.out) HC0.out (Kd.C_below HR0.out KYB0.out) HC0.out HN.out rfl HAA.out).mono ?_
    rintro e w3 ⟨Az, nz, rfl, KZ1, KZ2, KZB⟩
    have KX4 := Aside0.mk (Kd.C_below KX3.out KZB.out)
    have KY4 := Aside0.mk (Kd.C_below KY2.out KZB.out)
    have KB := Aside0.mk (below_step KYB0.out KZB.out)
    have HXN := KX1
    have hmk := print_make (P := Try.prog) 26 5 .u8 1 Try.underlying26 info5 (by decide) a.length (by omega)
    clear KX1 KX2 KXB KY2 KYB KX3 KYB0 KZB
    have HS := Aside0.mk (str_run Ay ny a w3 KY4.out)
    have HS2 := Aside0.mk (str_run A0 c0 a w3 (Kd.C_below HR0.out KB.out))
    have HS3 := Aside0.mk (str_run Az nz z w3 KZ2.out)
    go_wp2_with fail
    refine start_ (n := 39) (S := fun w' => (convert 26 9 (.slice Ay a.length ny)).run Try.prog w' = .ok (.string (strOfNums a)) w' ∧ (convert 26 9 (.slice A0 a.length c0)).run Try.prog w' = .ok (.string (strOfNums a)) w' ∧ (convert 26 9 (.slice Az z.length nz)).run Try.prog w' = .ok (.string (strOfNums z)) w') (ds := []) #[false, false, false, false, false, false, false, false, false, false, false, false, false, false, false, false, false, false, false, false, false, false, false, false, false, false, false, false, false, false, false, false, false, false, false, false, false, false, false] (by kernel_rfl) rfl rfl ⟨HS.out _ (by repeat (first | exact Below.refl _ _ | apply below_drew | apply below_alloc | apply pw_below_drewN)), HS2.out _ (by repeat (first | exact Below.refl _ _ | apply below_drew | apply below_alloc | apply pw_below_drewN)), HS3.out _ (by repeat (first | exact Below.refl _ _ | apply below_drew | apply below_alloc | apply pw_below_drewN))⟩ (fun hHeld => ?_); refine with_tabW rg5.tab6 rg5.bits6 (fun HT_ HW_ => ?_)
    refine take_ (i := 0) (N := (some 41)) (v := ?_) (a' := ?_) #[true, false, false, false, false, false, false, false, false, false, false, false, false, false, false, false, false, false, false, false, false, false, false, false, false, false, false, false, false, false, false, false, false, false, false, false, false, false, false] rfl rfl (take_ofW HT_.out HW_.out (by kernel_rfl)) (fun _ _ _ h => h) (Or.inl ⟨by rfl, ?_⟩) hHeld ?_ ?_
    rotate_left
    · rintro w' ⟨s0_, s1_, s2_⟩
      go_simp
      with_reducible rfl
    rotate_left
    · simp only [Act.put, List.setIfInBounds_toArray, List.set_cons_zero, List.set_cons_succ, i64_w, i32_w]
      rfl
    refine take_ (i := 1) (N := (some 42)) (v := ?_) (a' := ?_) #[true, true, false, false, false, false, false, false, false, false, false, false, false, false, false, false, false, false, false, false, false, false, false, false, false, false, false, false, false, false, false, false, false, false, false, false, false, false, false] rfl rfl (take_ofW HT_.out HW_.out (by kernel_rfl)) (fun _ _ _ h => h) (Or.inl ⟨by rfl, ?_⟩) hHeld ?_ ?_
    rotate_left
    · rintro w' ⟨s0_, s1_, s2_⟩
      go_simp
      with_reducible rfl
    rotate_left
    · simp only [Act.put, List.setIfInBounds_toArray, List.set_cons_zero, List.set_cons_succ, i64_w, i32_w]
      rfl
    refine take_ (i := 2) (N := (some 43)) (v := ?_) (a' := ?_) #[true, true, true, false, false, false, false, false, false, false, false, false, false, false, false, false, false, false, false, false, false, false, false, false, false, false, false, false, false, false, false, false, false, false, false, false, false, false, false] rfl rfl (take_ofW HT_.out HW_.out (by kernel_rfl)) (fun _ _ _ h => h) (Or.inl ⟨by rfl, ?_⟩) hHeld ?_ ?_
    rotate_left
    · rintro w' ⟨s0_, s1_, s2_⟩
      go_simp
      with_reducible rfl
    rotate_left
    · simp only [Act.put, List.setIfInBounds_toArray, List.set_cons_zero, List.set_cons_succ, i64_w, i32_w]
      rfl
    refine take_ (i := 3) (N := (some 44)) (v := ?_) (a' := ?_) #[true, true, true, true, false, false, false, false, false, false, false, false, false, false, false, false, false, false, false, false, false, false, false, false, false, false, false, false, false, false, false, false, false, false, false, false, false, false, false] rfl rfl (take_ofW HT_.out HW_.out (by kernel_rfl)) (fun _ _ _ h => h) (Or.inl ⟨by rfl, ?_⟩) hHeld ?_ ?_
    rotate_left
    · rintro w' ⟨s0_, s1_, s2_⟩
      go_simp
      with_reducible rfl
    rotate_left
    · simp only [Act.put, List.setIfInBounds_toArray, List.set_cons_zero, List.set_cons_succ, i64_w, i32_w]
      rfl
    refine take_ (i := 4) (N := (some 45)) (v := ?_) (a' := ?_) #[true, true, true, true, true, false, false, false, false, false, false, false, false, false, false, false, false, false, false, false, false, false, false, false, false, false, false, false, false, false, false, false, false, false, false, false, false, false, false] rfl rfl (take_ofW HT_.out HW_.out (by kernel_rfl)) (fun _ _ _ h => h) (Or.inl ⟨by rfl, ?_⟩) hHeld ?_ ?_
    rotate_left
    · rintro w' ⟨s0_, s1_, s2_⟩
      go_simp
      with_reducible rfl
    rotate_left
    · simp only [Act.put, List.setIfInBounds_toArray, List.set_cons_zero, List.set_cons_succ, i64_w, i32_w]
      rfl
    refine take_ (i := 5) (N := (some 46)) (v := ?_) (a' := ?_) #[true, true, true, true, true, true, false, false, false, false, false, false, false, false, false, false, false, false, false, false, false, false, false, false, false, false, false, false, false, false, false, false, false, false, false, false, false, false, false] rfl rfl (take_ofW HT_.out HW_.out (by kernel_rfl)) (fun _ _ _ h => h) (Or.inl ⟨by rfl, ?_⟩) hHeld ?_ ?_
    rotate_left
    · rintro w' ⟨s0_, s1_, s2_⟩
      go_simp
      with_reducible rfl
    rotate_left
    · simp only [Act.put, List.setIfInBounds_toArray, List.set_cons_zero, List.set_cons_succ, i64_w, i32_w]
      rfl
    refine take_ (i := 6) (N := (some 47)) (v := ?_) (a' := ?_) #[true, true, true, true, true, true, true, false, false, false, false, false, false, false, false, false, false, false, false, false, false, false, false, false, false, false, false, false, false, false, false, false, false, false, false, false, false, false, false] rfl rfl (take_ofW HT_.out HW_.out (by kernel_rfl)) (fun _ _ _ h => h) (Or.inl ⟨by rfl, ?_⟩) hHeld ?_ ?_
    rotate_left
    · rintro w' ⟨s0_, s1_, s2_⟩
      go_simp
      with_reducible rfl
    rotate_left
    · simp only [Act.put, List.setIfInBounds_toArray, List.set_cons_zero, List.set_cons_succ, i64_w, i32_w]
      rfl
    refine take_ (i := 7) (N := (some 48)) (v := ?_) (a' := ?_) #[true, true, true, true, true, true, true, true, false, false, false, false, false, false, false, false, false, false, false, false, false, false, false, false, false, false, false, false, false, false, false, false, false, false, false, false, false, false, false] rfl rfl (take_ofW HT_.out HW_.out (by kernel_rfl)) (fun _ _ _ h => h) (Or.inl ⟨by rfl, ?_⟩) hHeld ?_ ?_
    rotate_left
    · rintro w' ⟨s0_, s1_, s2_⟩
      go_simp
      with_reducible rfl
    rotate_left
    · simp only [Act.put, List.setIfInBounds_toArray, List.set_cons_zero, List.set_cons_succ, i64_w, i32_w]
      rfl
    refine take_ (i := 8) (N := (some 49)) (v := ?_) (a' := ?_) #[true, true, true, true, true, true, true, true, true, false, false, false, false, false, false, false, false, false, false, false, false, false, false, false, false, false, false, false, false, false, false, false, false, false, false, false, false, false, false] rfl rfl (take_ofW HT_.out HW_.out (by kernel_rfl)) (fun _ _ _ h => h) (Or.inl ⟨by rfl, ?_⟩) hHeld ?_ ?_
    rotate_left
    · rintro w' ⟨s0_, s1_, s2_⟩
      go_simp
      with_reducible rfl
    rotate_left
    · simp only [Act.put, List.setIfInBounds_toArray, List.set_cons_zero, List.set_cons_succ, i64_w, i32_w]
      rfl
    refine take_ (i := 9) (N := (some 50)) (v := ?_) (a' := ?_) #[true, true, true, true, true, true, true, true, true, true, false, false, false, false, false, false, false, false, false, false, false, false, false, false, false, false, false, false, false, false, false, false, false, false, false, false, false, false, false] rfl rfl (take_ofW HT_.out HW_.out (by kernel_rfl)) (fun _ _ _ h => h) (Or.inl ⟨by rfl, ?_⟩) hHeld ?_ ?_
    rotate_left
    · rintro w' ⟨s0_, s1_, s2_⟩
      go_simp
      with_reducible rfl
    rotate_left
    · simp only [Act.put, List.setIfInBounds_toArray, List.set_cons_zero, List.set_cons_succ, i64_w, i32_w]
      rfl
    refine take_ (i := 10) (N := (some 51)) (v := ?_) (a' := ?_) #[true, true, true, true, true, true, true, true, true, true, true, false, false, false, false, false, false, false, false, false, false, false, false, false, false, false, false, false, false, false, false, false, false, false, false, false, false, false, false] rfl rfl (take_ofW HT_.out HW_.out (by kernel_rfl)) (fun _ _ _ h => h) (Or.inl ⟨by rfl, ?_⟩) hHeld ?_ ?_
    rotate_left
    · rintro w' ⟨s0_, s1_, s2_⟩
      go_simp
      with_reducible rfl
    rotate_left
    · simp only [Act.put, List.setIfInBounds_toArray, List.set_cons_zero, List.set_cons_succ, i64_w, i32_w]
      rfl
    refine take_ (i := 11) (N := (some 52)) (v := ?_) (a' := ?_) #[true, true, true, true, true, true, true, true, true, true, true, true, false, false, false, false, false, false, false, false, false, false, false, false, false, false, false, false, false, false, false, false, false, false, false, false, false, false, false] rfl rfl (take_ofW HT_.out HW_.out (by kernel_rfl)) (fun _ _ _ h => h) (Or.inl ⟨by rfl, ?_⟩) hHeld ?_ ?_
    rotate_left
    · rintro w' ⟨s0_, s1_, s2_⟩
      go_simp
      with_reducible rfl
    rotate_left
    · simp only [Act.put, List.setIfInBounds_toArray, List.set_cons_zero, List.set_cons_succ, i64_w, i32_w]
      rfl
    refine take_ (i := 12) (N := (some 53)) (v := ?_) (a' := ?_) #[true, true, true, true, true, true, true, true, true, true, true, true, true, false, false, false, false, false, false, false, false, false, false, false, false, false, false, false, false, false, false, false, false, false, false, false, false, false, false] rfl rfl (take_ofW HT_.out HW_.out (by kernel_rfl)) (fun _ _ _ h => h) (Or.inl ⟨by rfl, ?_⟩) hHeld ?_ ?_
    rotate_left
    · rintro w' ⟨s0_, s1_, s2_⟩
      go_simp
      with_reducible rfl
    rotate_left
    · simp only [Act.put, List.setIfInBounds_toArray, List.set_cons_zero, List.set_cons_succ, i64_w, i32_w]
      rfl
    refine take_ (i := 13) (N := (some 54)) (v := ?_) (a' := ?_) #[true, true, true, true, true, true, true, true, true, true, true, true, true, true, false, false, false, false, false, false, false, false, false, false, false, false, false, false, false, false, false, false, false, false, false, false, false, false, false] rfl rfl (take_ofW HT_.out HW_.out (by kernel_rfl)) (fun _ _ _ h => h) (Or.inl ⟨by rfl, ?_⟩) hHeld ?_ ?_
    rotate_left
    · rintro w' ⟨s0_, s1_, s2_⟩
      go_simp
      with_reducible rfl
    rotate_left
    · simp only [Act.put, List.setIfInBounds_toArray, List.set_cons_zero, List.set_cons_succ, i64_w, i32_w]
      rfl
    refine take_ (i := 14) (N := (some 55)) (v := ?_) (a' := ?_) #[true, true, true, true, true, true, true, true, true, true, true, true, true, true, true, false, false, false, false, false, false, false, false, false, false, false, false, false, false, false, false, false, false, false, false, false, false, false, false] rfl rfl (take_ofW HT_.out HW_.out (by kernel_rfl)) (fun _ _ _ h => h) (Or.inl ⟨by rfl, ?_⟩) hHeld ?_ ?_
    rotate_left
    · rintro w' ⟨s0_, s1_, s2_⟩
      go_simp
      with_reducible rfl
    rotate_left
    · simp only [Act.put, List.setIfInBounds_toArray, List.set_cons_zero, List.set_cons_succ, i64_w, i32_w]
      rfl
    refine take_ (i := 15) (N := (some 56)) (v := ?_) (a' := ?_) #[true, true, true, true, true, true, true, true, true, true, true, true, true, true, true, true, false, false, false, false, false, false, false, false, false, false, false, false, false, false, false, false, false, false, false, false, false, false, false] rfl rfl (take_ofW HT_.out HW_.out (by kernel_rfl)) (fun _ _ _ h => h) (Or.inl ⟨by rfl, ?_⟩) hHeld ?_ ?_
    rotate_left
    · rintro w' ⟨s0_, s1_, s2_⟩
      go_simp
      with_reducible rfl
    rotate_left
    · simp only [Act.put, List.setIfInBounds_toArray, List.set_cons_zero, List.set_cons_succ, i64_w, i32_w]
      rfl
    refine take_ (i := 16) (N := (some 57)) (v := ?_) (a' := ?_) #[true, true, true, true, true, true, true, true, true, true, true, true, true, true, true, true, true, false, false, false, false, false, false, false, false, false, false, false, false, false, false, false, false, false, false, false, false, false, false] rfl rfl (take_ofW HT_.out HW_.out (by kernel_rfl)) (fun _ _ _ h => h) (Or.inl ⟨by rfl, ?_⟩) hHeld ?_ ?_
    rotate_left
    · rintro w' ⟨s0_, s1_, s2_⟩
      go_simp
      with_reducible rfl
    rotate_left
    · simp only [Act.put, List.setIfInBounds_toArray, List.set_cons_zero, List.set_cons_succ, i64_w, i32_w]
      rfl
    refine take_ (i := 17) (N := (some 58)) (v := ?_) (a' := ?_) #[true, true, true, true, true, true, true, true, true, true, true, true, true, true, true, true, true, true, false, false, false, false, false, false, false, false, false, false, false, false, false, false, false, false, false, false, false, false, false] rfl rfl (take_ofW HT_.out HW_.out (by kernel_rfl)) (fun _ _ _ h => h) (Or.inl ⟨by rfl, ?_⟩) hHeld ?_ ?_
    rotate_left
    · rintro w' ⟨s0_, s1_, s2_⟩
      go_simp
      with_reducible rfl
    rotate_left
    · simp only [Act.put, List.setIfInBounds_toArray, List.set_cons_zero, List.set_cons_succ, i64_w, i32_w]
      rfl
    refine take_ (i := 18) (N := (some 59)) (v := ?_) (a' := ?_) #[true, true, true, true, true, true, true, true, true, true, true, true, true, true, true, true, true, true, true, false, false, false, false, false, false, false, false, false, false, false, false, false, false, false, false, false, false, false, false] rfl rfl (take_ofW HT_.out HW_.out (by kernel_rfl)) (fun _ _ _ h => h) (Or.inl ⟨by rfl, ?_⟩) hHeld ?_ ?_
    rotate_left
    · rintro w' ⟨s0_, s1_, s2_⟩
      go_simp
      with_reducible rfl
    rotate_left
    · simp only [Act.put, List.setIfInBounds_toArray, List.set_cons_zero, List.set_cons_succ, i64_w, i32_w]
      rfl
    refine take_ (i := 19) (N := (some 60)) (v := ?_) (a' := ?_) #[true, true, true, true, true, true, true, true, true, true, true, true, true, true, true, true, true, true, true, true, false, false, false, false, false, false, false, false, false, false, false, false, false, false, false, false, false, false, false] rfl rfl (take_ofW HT_.out HW_.out (by kernel_rfl)) (fun _ _ _ h => h) (Or.inl ⟨by rfl, ?_⟩) hHeld ?_ ?_
    rotate_left
    · rintro w' ⟨s0_, s1_, s2_⟩
      go_simp
      with_reducible rfl
    rotate_left
    · simp only [Act.put, List.setIfInBounds_toArray, List.set_cons_zero, List.set_cons_succ, i64_w, i32_w]
      rfl
    refine take_ (i := 20) (N := (some 61)) (v := ?_) (a' := ?_) #[true, true, true, true, true, true, true, true, true, true, true, true, true, true, true, true, true, true, true, true, true, false, false, false, false, false, false, false, false, false, false, false, false, false, false, false, false, false, false] rfl rfl (take_ofW HT_.out HW_.out (by kernel_rfl)) (fun _ _ _ h => h) (Or.inl ⟨by rfl, ?_⟩) hHeld ?_ ?_
    rotate_left
    · rintro w' ⟨s0_, s1_, s2_⟩
      go_simp
      with_reducible rfl
    rotate_left
    · simp only [Act.put, List.setIfInBounds_toArray, List.set_cons_zero, List.set_cons_succ, i64_w, i32_w]
      rfl
    refine take_ (i := 21) (N := (some 62)) (v := ?_) (a' := ?_) #[true, true, true, true, true, true, true, true, true, true, true, true, true, true, true, true, true, true, true, true, true, true, false, false, false, false, false, false, false, false, false, false, false, false, false, false, false, false, false] rfl rfl (take_ofW HT_.out HW_.out (by kernel_rfl)) (fun _ _ _ h => h) (Or.inl ⟨by rfl, ?_⟩) hHeld ?_ ?_
    rotate_left
    · rintro w' ⟨s0_, s1_, s2_⟩
      go_simp
      with_reducible rfl
    rotate_left
    · simp only [Act.put, List.setIfInBounds_toArray, List.set_cons_zero, List.set_cons_succ, i64_w, i32_w]
      rfl
    refine one_ (i := 22) (N := (some 63)) #[true, true, true, true, true, true, true, true, true, true, true, true, true, true, true, true, true, true, true, true, true, true, true, false, false, false, false, false, false, false, false, false, false, false, false, false, false, false, false] rfl rfl (one_of HT_.out (by kernel_rfl)) (by decide) (fun K hK => ?_)
    refine value_ (by rfl) rfl (v := ?_) (w1 := ?_) ?_ ?_
    rotate_left 2
    · (go_simp; first | (with_reducible rfl) | (constructor <;> with_reducible rfl))
    refine hK.out _ _ ⟨HS.out _ (by repeat (first | exact Below.refl _ _ | apply below_drew | apply below_alloc | apply pw_below_drewN)), HS2.out _ (by repeat (first | exact Below.refl _ _ | apply below_drew | apply below_alloc | apply pw_below_drewN)), HS3.out _ (by repeat (first | exact Below.refl _ _ | apply below_drew | apply below_alloc | apply pw_below_drewN))⟩ (fun hHeld => ?_)
    clear hK K
    refine norm_ (a' := ?_) ?_ ?_
    rotate_left
    · show Act.put _ (some 63) _ = _
      simp only [Act.put, List.setIfInBounds_toArray, List.set_cons_zero, List.set_cons_succ, i64_w, i32_w]
      rfl
    refine one_ (i := 23) (N := (some 64)) #[true, true, true, true, true, true, true, true, true, true, true, true, true, true, true, true, true, true, true, true, true, true, true, true, false, false, false, false, false, false, false, false, false, false, false, false, false, false, false] rfl rfl (one_of HT_.out (by kernel_rfl)) (by decide) (fun K hK => ?_)
    refine value_ (by rfl) rfl (v := ?_) (w1 := ?_) ?_ ?_
    rotate_left 2
    · (go_simp; first | (with_reducible rfl) | (constructor <;> with_reducible rfl))
    refine hK.out _ _ ⟨HS.out _ (by repeat (first | exact Below.refl _ _ | apply below_drew | apply below_alloc | apply pw_below_drewN)), HS2.out _ (by repeat (first | exact Below.refl _ _ | apply below_drew | apply below_alloc | apply pw_below_drewN)), HS3.out _ (by repeat (first | exact Below.refl _ _ | apply below_drew | apply below_alloc | apply pw_below_drewN))⟩ (fun hHeld => ?_)
    clear hK K
    refine norm_ (a' := ?_) ?_ ?_
    rotate_left
    · show Act.put _ (some 64) _ = _
      simp only [Act.put, List.setIfInBounds_toArray, List.set_cons_zero, List.set_cons_succ, i64_w, i32_w]
      rfl
    refine take_ (i := 24) (N := (some 65)) (v := ?_) (a' := ?_) #[true, true, true, true, true, true, true, true, true, true, true, true, true, true, true, true, true, true, true, true, true, true, true, true, true, false, false, false, false, false, false, false, false, false, false, false, false, false, false] rfl rfl (take_ofW HT_.out HW_.out (by kernel_rfl)) (fun _ _ _ h => h) (Or.inl ⟨by rfl, ?_⟩) hHeld ?_ ?_
    rotate_left
    · rintro w' ⟨s0_, s1_, s2_⟩
      go_simp
      with_reducible rfl
    rotate_left
    · simp only [Act.put, List.setIfInBounds_toArray, List.set_cons_zero, List.set_cons_succ, i64_w, i32_w]
      rfl
    refine take_ (i := 25) (N := (some 66)) (v := ?_) (a' := ?_) #[true, true, true, true, true, true, true, true, true, true, true, true, true, true, true, true, true, true, true, true, true, true, true, true, true, true, false, false, false, false, false, false, false, false, false, false, false, false, false] rfl rfl (take_ofW HT_.out HW_.out (by kernel_rfl)) (fun _ _ _ h => h) (Or.inl ⟨by rfl, ?_⟩) hHeld ?_ ?_
    rotate_left
    · rintro w' ⟨s0_, s1_, s2_⟩
      go_simp
      with_reducible rfl
    rotate_left
    · simp only [Act.put, List.setIfInBounds_toArray, List.set_cons_zero, List.set_cons_succ, i64_w, i32_w]
      rfl
    refine take_ (i := 26) (N := (some 67)) (v := ?_) (a' := ?_) #[true, true, true, true, true, true, true, true, true, true, true, true, true, true, true, true, true, true, true, true, true, true, true, true, true, true, true, false, false, false, false, false, false, false, false, false, false, false, false] rfl rfl (take_ofW HT_.out HW_.out (by kernel_rfl)) (fun _ _ _ h => h) (Or.inl ⟨by rfl, ?_⟩) hHeld ?_ ?_
    rotate_left
    · rintro w' ⟨s0_, s1_, s2_⟩
      go_simp
      with_reducible rfl
    rotate_left
    · simp only [Act.put, List.setIfInBounds_toArray, List.set_cons_zero, List.set_cons_succ, i64_w, i32_w]
      rfl
    refine take_ (i := 27) (N := (some 68)) (v := ?_) (a' := ?_) #[true, true, true, true, true, true, true, true, true, true, true, true, true, true, true, true, true, true, true, true, true, true, true, true, true, true, true, true, false, false, false, false, false, false, false, false, false, false, false] rfl rfl (take_ofW HT_.out HW_.out (by kernel_rfl)) (fun _ _ _ h => h) (Or.inl ⟨by rfl, ?_⟩) hHeld ?_ ?_
    rotate_left
    · rintro w' ⟨s0_, s1_, s2_⟩
      go_simp
      with_reducible rfl
    rotate_left
    · simp only [Act.put, List.setIfInBounds_toArray, List.set_cons_zero, List.set_cons_succ, i64_w, i32_w]
      rfl
    refine take_ (i := 28) (N := (some 69)) (v := ?_) (a' := ?_) #[true, true, true, true, true, true, true, true, true, true, true, true, true, true, true, true, true, true, true, true, true, true, true, true, true, true, true, true, true, false, false, false, false, false, false, false, false, false, false] rfl rfl (take_ofW HT_.out HW_.out (by kernel_rfl)) (fun _ _ _ h => h) (Or.inl ⟨by rfl, ?_⟩) hHeld ?_ ?_
    rotate_left
    · rintro w' ⟨s0_, s1_, s2_⟩
      go_simp
      with_reducible rfl
    rotate_left
    · simp only [Act.put, List.setIfInBounds_toArray, List.set_cons_zero, List.set_cons_succ, i64_w, i32_w]
      rfl
    refine take_ (i := 30) (N := (some 71)) (v := ?_) (a' := ?_) #[true, true, true, true, true, true, true, true, true, true, true, true, true, true, true, true, true, true, true, true, true, true, true, true, true, true, true, true, true, false, true, false, false, false, false, false, false, false, false] rfl rfl (take_ofW HT_.out HW_.out (by kernel_rfl)) (fun _ _ _ h => h) (Or.inl ⟨by rfl, ?_⟩) hHeld ?_ ?_
    rotate_left
    · rintro w' ⟨s0_, s1_, s2_⟩
      go_simp
      with_reducible rfl
    rotate_left
    · simp only [Act.put, List.setIfInBounds_toArray, List.set_cons_zero, List.set_cons_succ, i64_w, i32_w]
      rfl
    refine take_ (i := 31) (N := (some 72)) (v := ?_) (a' := ?_) #[true, true, true, true, true, true, true, true, true, true, true, true, true, true, true, true, true, true, true, true, true, true, true, true, true, true, true, true, true, false, true, true, false, false, false, false, false, false, false] rfl rfl (take_ofW HT_.out HW_.out (by kernel_rfl)) (fun _ _ _ h => h) (Or.inl ⟨by rfl, ?_⟩) hHeld ?_ ?_
    rotate_left
    · rintro w' ⟨s0_, s1_, s2_⟩
      go_simp
      with_reducible rfl
    rotate_left
    · simp only [Act.put, List.setIfInBounds_toArray, List.set_cons_zero, List.set_cons_succ, i64_w, i32_w]
      rfl
    refine one_ (i := 29) (N := (some 70)) #[true, true, true, true, true, true, true, true, true, true, true, true, true, true, true, true, true, true, true, true, true, true, true, true, true, true, true, true, true, true, true, true, false, false, false, false, false, false, false] rfl rfl (one_of HT_.out (by kernel_rfl)) (by decide) (fun K hK => ?_)
    refine goes_ Try.func19 (by kernel_rfl) rfl #[.slice Ax x.length nx, .slice Az z.length nz] (by rfl) rfl rfl (by first | rfl | (simp only [List.map_toArray, List.map_cons, List.map_nil]; try rfl)) ?_
    (with_reducible refine (same_yes Ax nx x Az nz z r _ (Kd.C_below KX4.out (by repeat (first | exact Below.refl _ _ | apply below_drew | apply below_alloc | apply pw_below_drewN))) HXN.out (Kd.C_below KZ2.out (by repeat (first | exact Below.refl _ _ | apply below_drew | apply below_alloc | apply pw_below_drewN))) KZ1.out HXL HX2.out HZ2.out HXE.out).mono ?_)
    rintro e_ w_ ⟨rfl, ⟨nd, rfl⟩⟩
    refine ⟨_, rfl, ?_⟩
    refine hK.out _ _ ⟨HS.out _ (by repeat (first | exact Below.refl _ _ | apply below_drew | apply below_alloc | apply pw_below_drewN)), HS2.out _ (by repeat (first | exact Below.refl _ _ | apply below_drew | apply below_alloc | apply pw_below_drewN)), HS3.out _ (by repeat (first | exact Below.refl _ _ | apply below_drew | apply below_alloc | apply pw_below_drewN))⟩ (fun hHeld => ?_)
    clear hK K
    refine norm_ (a' := ?_) ?_ ?_
    rotate_left
    · show Act.put _ (some 70) _ = _
      simp only [Act.put, List.setIfInBounds_toArray, List.set_cons_zero, List.set_cons_succ, i64_w, i32_w]
      rfl
    refine one_ (i := 32) (N := (some 73)) #[true, true, true, true, true, true, true, true, true, true, true, true, true, true, true, true, true, true, true, true, true, true, true, true, true, true, true, true, true, true, true, true, true, false, false, false, false, false, false] rfl rfl (one_of HT_.out (by kernel_rfl)) (by decide) (fun K hK => ?_)
    refine goes_ Try.func19 (by kernel_rfl) rfl #[.slice A0 a.length c0, .slice A1 b.length c1] (by rfl) rfl rfl (by first | rfl | (simp only [List.map_toArray, List.map_cons, List.map_nil]; try rfl)) ?_
    (with_reducible refine (same_yes A0 c0 a A1 c1 b r _ (Kd.C_below HR0.out (below_step KB.out (by repeat (first | exact Below.refl _ _ | apply below_drew | apply below_alloc | apply pw_below_drewN)))) HC0.out (Kd.C_below HR1.out (below_step KB.out (by repeat (first | exact Below.refl _ _ | apply below_drew | apply below_alloc | apply pw_below_drewN)))) HC1.out HN.out HBA.out HBB.out HRR.out).mono ?_)
    rintro e_ w_ ⟨rfl, ⟨nd, rfl⟩⟩
    refine ⟨_, rfl, ?_⟩
    refine hK.out _ _ ⟨HS.out _ (by repeat (first | exact Below.refl _ _ | apply below_drew | apply below_alloc | apply pw_below_drewN)), HS2.out _ (by repeat (first | exact Below.refl _ _ | apply below_drew | apply below_alloc | apply pw_below_drewN)), HS3.out _ (by repeat (first | exact Below.refl _ _ | apply below_drew | apply below_alloc | apply pw_below_drewN))⟩ (fun hHeld => ?_)
    clear hK K
    refine norm_ (a' := ?_) ?_ ?_
    rotate_left
    · show Act.put _ (some 73) _ = _
      simp only [Act.put, List.setIfInBounds_toArray, List.set_cons_zero, List.set_cons_succ, i64_w, i32_w]
      rfl
    refine take_ (i := 33) (N := (some 74)) (v := ?_) (a' := ?_) #[true, true, true, true, true, true, true, true, true, true, true, true, true, true, true, true, true, true, true, true, true, true, true, true, true, true, true, true, true, true, true, true, true, true, false, false, false, false, false] rfl rfl (take_ofW HT_.out HW_.out (by kernel_rfl)) (fun _ _ _ h => h) (Or.inl ⟨by rfl, ?_⟩) hHeld ?_ ?_
    rotate_left
    · rintro w' ⟨s0_, s1_, s2_⟩
      go_simp
      with_reducible rfl
    rotate_left
    · simp only [Act.put, List.setIfInBounds_toArray, List.set_cons_zero, List.set_cons_succ, i64_w, i32_w]
      rfl
    refine take_ (i := 34) (N := (some 75)) (v := ?_) (a' := ?_) #[true, true, true, true, true, true, true, true, true, true, true, true, true, true, true, true, true, true, true, true, true, true, true, true, true, true, true, true, true, true, true, true, true, true, true, false, false, false, false] rfl rfl (take_ofW HT_.out HW_.out (by kernel_rfl)) (fun _ _ _ h => h) (Or.inl ⟨by rfl, ?_⟩) hHeld ?_ ?_
    rotate_left
    · rintro w' ⟨s0_, s1_, s2_⟩
      go_simp
      with_reducible rfl
    rotate_left
    · simp only [Act.put, List.setIfInBounds_toArray, List.set_cons_zero, List.set_cons_succ, i64_w, i32_w]
      rfl
    refine take_ (i := 35) (N := (some 76)) (v := ?_) (a' := ?_) #[true, true, true, true, true, true, true, true, true, true, true, true, true, true, true, true, true, true, true, true, true, true, true, true, true, true, true, true, true, true, true, true, true, true, true, true, false, false, false] rfl rfl (take_ofW HT_.out HW_.out (by kernel_rfl)) (fun _ _ _ h => h) (Or.inl ⟨by rfl, ?_⟩) hHeld ?_ ?_
    rotate_left
    · rintro w' ⟨s0_, s1_, s2_⟩
      go_simp
      with_reducible rfl
    rotate_left
    · simp only [Act.put, List.setIfInBounds_toArray, List.set_cons_zero, List.set_cons_succ, i64_w, i32_w]
      rfl
    refine one_ (i := 36) (N := (some 77)) #[true, true, true, true, true, true, true, true, true, true, true, true, true, true, true, true, true, true, true, true, true, true, true, true, true, true, true, true, true, true, true, true, true, true, true, true, true, false, false] rfl rfl (one_of HT_.out (by kernel_rfl)) (by decide) (fun K hK => ?_)
    refine goes_ Try.func16 (by kernel_rfl) rfl #[] (by rfl) rfl rfl (by first | rfl | (simp only [List.map_toArray, List.map_cons, List.map_nil]; try rfl)) ?_
    (with_reducible refine (carillonlaw01_awake.calls true _ awake_is).mono ?_)
    rintro e_ w_ ⟨rfl, ⟨nd, rfl⟩⟩
    refine ⟨_, rfl, ?_⟩
    refine hK.out _ _ ⟨HS.out _ (by repeat (first | exact Below.refl _ _ | apply below_drew | apply below_alloc | apply pw_below_drewN)), HS2.out _ (by repeat (first | exact Below.refl _ _ | apply below_drew | apply below_alloc | apply pw_below_drewN)), HS3.out _ (by repeat (first | exact Below.refl _ _ | apply below_drew | apply below_alloc | apply pw_below_drewN))⟩ (fun hHeld => ?_)
    clear hK K
    refine norm_ (a' := ?_) ?_ ?_
    rotate_left
    · show Act.put _ (some 77) _ = _
      simp only [Act.put, List.setIfInBounds_toArray, List.set_cons_zero, List.set_cons_succ, i64_w, i32_w]
      rfl
    refine take_ (i := 37) (N := (some 78)) (v := ?_) (a' := ?_) #[true, true, true, true, true, true, true, true, true, true, true, true, true, true, true, true, true, true, true, true, true, true, true, true, true, true, true, true, true, true, true, true, true, true, true, true, true, true, false] rfl rfl (take_ofW HT_.out HW_.out (by kernel_rfl)) (fun _ _ _ h => h) (Or.inl ⟨by rfl, ?_⟩) hHeld ?_ ?_
    rotate_left
    · rintro w' ⟨s0_, s1_, s2_⟩
      go_simp
      with_reducible rfl
    rotate_left
    · simp only [Act.put, List.setIfInBounds_toArray, List.set_cons_zero, List.set_cons_succ, i64_w, i32_w]
      rfl
    refine take_ (i := 38) (N := (some 4)) (v := ?_) (a' := ?_) #[true, true, true, true, true, true, true, true, true, true, true, true, true, true, true, true, true, true, true, true, true, true, true, true, true, true, true, true, true, true, true, true, true, true, true, true, true, true, true] rfl rfl (take_ofW HT_.out HW_.out (by kernel_rfl)) (fun _ _ _ h => h) (Or.inl ⟨by rfl, ?_⟩) hHeld ?_ ?_
    rotate_left
    · rintro w' ⟨s0_, s1_, s2_⟩
      go_simp
      with_reducible rfl
    rotate_left
    · simp only [Act.put, List.setIfInBounds_toArray, List.set_cons_zero, List.set_cons_succ, i64_w, i32_w]
      rfl
    refine done_ (done_of HT_.out (by kernel_rfl)) ?_
    go_wp2
    go_ret
    exact ⟨rfl, below_step KB.out (by repeat (first | exact Below.refl _ _ | apply below_drew | apply below_alloc | apply pw_below_drewN))⟩
  · have HL := Aside0.mk hl
    have hln : ((a.length : Int) == (b.length : Int)) = false := by simpa using (fun h : (a.length : Int) = (b.length : Int) => hl (by omega))
    have hln2 : ((a.length : Int) != (b.length : Int)) = true := by simpa using (fun h : (a.length : Int) = (b.length : Int) => hl (by omega))
    clear hl
    go_enter Try.func5, Try.ntmps5
    go_wp2_with fail
    refine (xor_no A0 c0 a A1 c1 b w HR0.out HC0.out HR1.out HC1.out HN.out HL.out).mono ?_
    rintro e w1 ⟨Ax, nx, rfl, KX1, KX2, KXB⟩
    go_wp2
    go_ret
    exact ⟨rfl, KXB.out⟩
end Go.Proofs.Ytedgfhnjmlefnaa.Pure
