/- Proved: carillonlaw01.WordDigits returns true: the digits of any bytes and the bytes of any text are what the document says; where what comes in is of bulk at most 1048576 (the '..UptoSaid' form). -/
import Derived.Test.YtedgfhnjmlefnaaPWordx6
import Derived.Test.YtedgfhnjmlefnaaX1Pure
namespace Go.Proofs.Ytedgfhnjmlefnaa.Pure
open Go.RowKit Go.Proofs.Ytedgfhnjmlefnaa.PWord Go.Proofs.YtedgfhnjmlefnaaW.PrintWords Go.Proofs.YtedgfhnjmlefnaaW.PrintLast Go.Proofs.YtedgfhnjmlefnaaW.PrintMore
set_option linter.unusedVariables false
set_option linter.unusedSimpArgs false
def WordDigits_U : Prop := ∀ (l0 : List Int) (a1 : ByteArray), l0.length ≤ maxLen → l0.length ≤ 1048576 → (∀ x ∈ l0, (Lit.int .u8 x).wf = true) → a1.size ≤ 1048576 → ∃ k, carillonlaw01_WordDigits.f k l0 a1 = some true
theorem turn_is (x : BitVec 32) (n : Int) (h0 : -9223372036854775808 ≤ n) (h1 : n ≤ 9223372036854775807) : word_Turn.f (x.toNat : Int) n = some ((rotr x (n % 32).toNat).toNat : Int) := by
  have e1 : Int.tmod (IntKind.u64.wrap (wrap64 ((Int.tmod n 32) + 32))) 32 = n % 32 := by
    rw [x_tmod n 32 (by omega)]
    have e2 : wrap64 ((if 0 ≤ n then n % 32 else -((-n) % 32)) + 32) = (if 0 ≤ n then n % 32 else -((-n) % 32)) + 32 := by
      apply x_w64 <;> split <;> omega
    rw [e2, x_wrap_u64', x_tmod _ 32 (by omega)]
    split <;> split <;> omega
  unfold word_Turn.f
  rw [e1]
  have e3 : IntKind.u64.wrap (32 - n % 32) = 32 - n % 32 := by rw [x_wrap_u64']; omega
  rw [e3, if_pos (by omega), if_pos (by omega)]
  obtain ⟨k, hk⟩ : ∃ k : Nat, n % 32 = (k : Int) := ⟨(n % 32).toNat, by omega⟩
  have hk32 : k ≤ 32 := by omega
  rw [hk, show (32 : Int) - (k : Int) = ((32 - k : Nat) : Int) by omega, x_shr32 _ _ hk32, x_shl32 _ _ (by omega), x_or32]
  rfl
theorem awake_is : carillonlaw01_awake.f = some true := by
  have := turn_is 1 1 (by omega) (by omega)
  unfold carillonlaw01_awake.f
  rw [show ((1 : BitVec 32).toNat : Int) = 1 from rfl] at this
  rw [this]
  decide
/-! Digits of bytes, bytes of digits. -/
theorem rdigit_loop (c : Int) : ∀ (d k i : Nat), i + d = 16 → d < k → (∀ j, j < i → digAt j ≠ c) → carillonref01_digit.l0 k c (i : Int) = some (x_digit c) := by
  intro d
  induction d with
  | zero =>
    intro k i hi hk h
    obtain ⟨k, rfl⟩ : ∃ m, k = m + 1 := ⟨k - 1, by omega⟩
    simp only [carillonref01_digit.l0]
    rw [if_neg (by omega), digAt_miss c (fun j hj => h j (by omega))]
  | succ d ih =>
    intro k i hi hk h
    obtain ⟨k, rfl⟩ : ∃ m, k = m + 1 := ⟨k - 1, by omega⟩
    simp only [carillonref01_digit.l0]
    have e1 : bt (⟨#[48, 49, 50, 51, 52, 53, 54, 55, 56, 57, 97, 98, 99, 100, 101, 102]⟩ : ByteArray) (i : Int) = digAt i := by
      rcases lt16 (show i < 16 by omega) with rfl | rfl | rfl | rfl | rfl | rfl | rfl | rfl | rfl | rfl | rfl | rfl | rfl | rfl | rfl | rfl <;> decide
    have e3 := wsucc i (by omega)
    rw [if_pos (by omega), if_pos (by omega), e1, e3]
    by_cases hh : digAt i = c
    · rw [if_pos hh, ← hh, digAt_hit i (by omega)]
    · rw [if_neg hh]
      exact ih k (i + 1) (by omega) (by omega) (fun j hj => by
        rcases Nat.lt_succ_iff_lt_or_eq.1 hj with h1 | rfl
        · exact h j h1
        · exact hh)
theorem rdigit_is (c : Int) (k : Nat) (hk : 16 < k) : carillonref01_digit.f k c = some (x_digit c) := rdigit_loop c 16 k 0 (by omega) hk (fun j hj => by omega)
theorem x_digit_bd (c : Int) : -1 ≤ x_digit c ∧ x_digit c ≤ 15 := by
  unfold x_digit; split
  · omega
  · split <;> omega
/-- What Unhex tells, from a place on. -/
def uh : List Int → Int → List Int → List Int × Int × Int
  | [], p, acc => (acc, p, 0)
  | [a], p, _ => if x_digit a < 0 then ([], p, 4) else ([], p + 1, 4)
  | a :: b :: r, p, acc => if x_digit a < 0 then ([], p, 4) else if x_digit b < 0 then ([], p + 1, 4) else uh r (p + 2) (acc ++ [x_digit a * 16 + x_digit b])
theorem or_digits (a b : Int) (ha0 : 0 ≤ a) (ha1 : a ≤ 15) (hb0 : 0 ≤ b) (hb1 : b ≤ 15) : (Go.bits .or .i64 (wrap64 (a * 16)) b) % 256 = a * 16 + b := by
  rw [x_w64 (by omega) (by omega), bits_join .i64 63 (by decide) (fun n h0 h1 => by rw [IntKind.wrap_i64]; omega) 4 _ _ (by omega) (by omega) (by omega) hb0 (by omega) (by omega)]
  omega
theorem unhex_two (s : ByteArray) (i k : Nat) (acc : List Int) (hs : s.size ≤ 140737488351232) (hi : i + 1 < s.size) (ha : acc.length ≤ i) :
    word_Unhex.l0 (k + 2) s acc (-1) (s.size : Int) (i : Int) = if x_digit (bt s (i : Int)) < 0 then some ([], (i : Int), 4) else if x_digit (bt s ((i + 1 : Nat) : Int)) < 0 then some ([], (i : Int) + 1, 4) else
      word_Unhex.l0 k s (acc ++ [x_digit (bt s (i : Int)) * 16 + x_digit (bt s ((i + 1 : Nat) : Int))]) (-1) (s.size : Int) ((i + 2 : Nat) : Int) := by
  have hda := x_digit_bd (bt s (i : Int))
  have hdb := x_digit_bd (bt s ((i + 1 : Nat) : Int))
  have e3 := wsucc i (by omega)
  have e4 := wsucc (i + 1) (by omega)
  rw [show k + 2 = (k + 1) + 1 from rfl, word_Unhex.l0, if_pos (by omega), if_pos (by omega), if_pos (by omega)]
  refine bind_to (a := x_digit (bt s (i : Int))) rfl ?_
  split
  · rfl
  · rename_i h1
    rw [if_pos (by omega), e3, word_Unhex.l0, if_pos (by omega), if_pos (by omega), if_pos (by omega)]
    refine bind_to (a := x_digit (bt s ((i + 1 : Nat) : Int))) rfl ?_
    split
    · rfl
    · rename_i h2
      rw [if_pos (by omega), or_digits _ _ (by omega) (by omega) (by omega) (by omega), e4]
theorem unhex_one (s : ByteArray) (i k : Nat) (acc : List Int) (hs : s.size ≤ 140737488351232) (hi : i + 1 = s.size) :
    word_Unhex.l0 (k + 2) s acc (-1) (s.size : Int) (i : Int) = if x_digit (bt s (i : Int)) < 0 then some ([], (i : Int), 4) else some ([], (i : Int) + 1, 4) := by
  have hda := x_digit_bd (bt s (i : Int))
  have e3 := wsucc i (by omega)
  rw [show k + 2 = (k + 1) + 1 from rfl, word_Unhex.l0, if_pos (by omega), if_pos (by omega), if_pos (by omega)]
  refine bind_to (a := x_digit (bt s (i : Int))) rfl ?_
  split
  · rfl
  · rename_i h1
    rw [if_pos (by omega), e3, word_Unhex.l0, if_neg (by omega), if_pos (by omega), ← hi]
    rfl
theorem unhex_none (s : ByteArray) (i k : Nat) (acc : List Int) (hi : i = s.size) : word_Unhex.l0 (k + 1) s acc (-1) (s.size : Int) (i : Int) = some (acc, (i : Int), 0) := by
  rw [word_Unhex.l0, if_neg (by omega), if_neg (by omega), hi]
theorem unhex_loop (s : ByteArray) (hs : s.size ≤ 140737488351232) : ∀ (n i k : Nat) (acc : List Int), i + n = s.size → n < k → acc.length ≤ i →
    word_Unhex.l0 k s acc (-1) (s.size : Int) (i : Int) = some (uh ((bytesOf s).drop i) (i : Int) acc) := by
  intro n
  induction n using Nat.strongRecOn with
  | _ n ih =>
    intro i k acc hn hk ha
    have hlen := bytesOf_length s
    match n with
    | 0 =>
      obtain ⟨k, rfl⟩ : ∃ m, k = m + 1 := ⟨k - 1, by omega⟩
      rw [unhex_none s i k acc (by omega), List.drop_of_length_le (by omega)]
      rfl
    | 1 =>
      obtain ⟨k, rfl⟩ : ∃ m, k = m + 2 := ⟨k - 2, by omega⟩
      have h1 : bt s (i : Int) = (bytesOf s)[i]'(by omega) := by rw [← rd_bytesOf, rd_get]
      rw [unhex_one s i k acc hs (by omega), List.drop_eq_getElem_cons (show i < (bytesOf s).length by omega), List.drop_of_length_le (by omega), h1]
      unfold uh
      split <;> rfl
    | n + 2 =>
      obtain ⟨k, rfl⟩ : ∃ m, k = m + 2 := ⟨k - 2, by omega⟩
      have h1 : bt s (i : Int) = (bytesOf s)[i]'(by omega) := by rw [← rd_bytesOf, rd_get]
      have h2 : bt s ((i + 1 : Nat) : Int) = (bytesOf s)[i + 1]'(by omega) := by rw [← rd_bytesOf, rd_get]
      rw [unhex_two s i k acc hs (by omega) ha, List.drop_eq_getElem_cons (show i < (bytesOf s).length by omega), List.drop_eq_getElem_cons (show i + 1 < (bytesOf s).length by omega), h1, h2]
      unfold uh
      split
      · rfl
      · split
        · rfl
        · exact ih n (by omega) (i + 2) k _ (by omega) (by omega) (by simp; omega)
theorem unhex_is (s : ByteArray) (hs : s.size ≤ 140737488351232) (k : Nat) (hk : s.size < k) : word_Unhex.f k s = some (uh (bytesOf s) 0 []) := by
  unfold word_Unhex.f
  have e1 : wrap64 ((s.size : Int) / 2) = (s.size : Int) / 2 := by unfold wrap64; omega
  rw [e1, if_pos (by omega), if_pos (by omega)]
  have := unhex_loop s hs s.size 0 k [] (by omega) hk (by simp)
  simpa using this
theorem hex_is (l : List Int) (h : IsB l) (hl : l.length ≤ 1048576) : word_Hex.f l = some (strOfNums (x_hex l)) := by
  unfold word_Hex.f; rw [if_pos ⟨h, by omega⟩]
theorem digAt_b (k : Nat) : 0 ≤ digAt k ∧ digAt k < 256 := by
  by_cases h : k < 16
  · rcases lt16 h with rfl | rfl | rfl | rfl | rfl | rfl | rfl | rfl | rfl | rfl | rfl | rfl | rfl | rfl | rfl | rfl <;> decide
  · simp [digAt, List.getD_eq_getElem?_getD, List.getElem?_eq_none (show ([48, 49, 50, 51, 52, 53, 54, 55, 56, 57, 97, 98, 99, 100, 101, 102] : List Int).length ≤ k by simp; omega)]
theorem x_hex_b (l : List Int) : IsB (x_hex l) := by
  intro x hx
  simp only [x_hex, List.mem_flatMap, List.mem_cons, List.not_mem_nil, or_false] at hx
  obtain ⟨c, _, h⟩ := hx
  rcases h with rfl | rfl <;> exact digAt_b _
theorem x_hex_cons (a : Int) (l : List Int) : x_hex (a :: l) = digAt (a / 16).toNat :: digAt (a % 16).toNat :: x_hex l := rfl
theorem uh_hex (l : List Int) (h : IsB l) : ∀ (p : Int) (acc : List Int), uh (x_hex l) p acc = (acc ++ l, p + 2 * l.length, 0) := by
  induction l with
  | nil => intro p acc; simp [x_hex, uh]
  | cons a l ih =>
    intro p acc
    have ha := h a (by simp)
    rw [x_hex_cons]
    unfold uh
    rw [digAt_hit _ (by omega), digAt_hit _ (by omega), if_neg (by omega), if_neg (by omega), ih (fun x hx => h x (by simp [hx]))]
    have e : (((a / 16).toNat : Nat) : Int) * 16 + (((a % 16).toNat : Nat) : Int) = a := by omega
    rw [e]
    simp
    omega
theorem digit_back (a : Int) (h : ¬ x_digit a < 0) : digAt (x_digit a).toNat = a := by
  unfold x_digit at *
  split at h
  · rename_i h1
    rw [if_pos h1]
    obtain ⟨j, hj, rfl⟩ : ∃ j : Nat, j ≤ 9 ∧ a = 48 + (j : Int) := ⟨(a - 48).toNat, by omega, by omega⟩
    rw [show ((48 : Int) + (j : Int) - 48).toNat = j by omega]
    match j, hj with
    | 0, _ | 1, _ | 2, _ | 3, _ | 4, _ | 5, _ | 6, _ | 7, _ | 8, _ | 9, _ => rfl
  · rename_i h1
    split at h
    · rename_i h2
      rw [if_neg h1, if_pos h2]
      obtain ⟨j, hj, rfl⟩ : ∃ j : Nat, j ≤ 5 ∧ a = 97 + (j : Int) := ⟨(a - 97).toNat, by omega, by omega⟩
      rw [show ((97 : Int) + (j : Int) - 87).toNat = 10 + j by omega]
      match j, hj with
      | 0, _ | 1, _ | 2, _ | 3, _ | 4, _ | 5, _ => rfl
    · omega
theorem uh_back : ∀ (n : Nat) (l : List Int) (p : Int) (acc : List Int), l.length = n → (∃ y, uh l p acc = (acc ++ y, p + l.length, 0) ∧ x_hex y = l ∧ IsB y) ∨ (∃ m, uh l p acc = ([], m, 4) ∧ p ≤ m ∧ m ≤ p + l.length) := by
  intro n
  induction n using Nat.strongRecOn with
  | _ n ih =>
    intro l p acc hn
    match l with
    | [] => exact .inl ⟨[], by simp [uh], rfl, IsB.nil⟩
    | [a] =>
      right
      unfold uh
      split
      · exact ⟨_, rfl, by omega, by simp; omega⟩
      · exact ⟨_, rfl, by omega, by simp⟩
    | a :: b :: r =>
      unfold uh
      split
      · exact .inr ⟨_, rfl, by omega, by simp; omega⟩
      · rename_i ha
        split
        · exact .inr ⟨_, rfl, by omega, by simp; omega⟩
        · rename_i hb
          have h1 := x_digit_bd a
          have h2 := x_digit_bd b
          have hr : r.length < n := by rw [← hn]; simp; omega
          rcases ih r.length hr r (p + 2) (acc ++ [x_digit a * 16 + x_digit b]) rfl with ⟨y, e1, e2, e3⟩ | ⟨m, e1, e2, e3⟩
          · left
            refine ⟨(x_digit a * 16 + x_digit b) :: y, ?_, ?_, IsB.cons (by omega) (by omega) e3⟩
            · rw [e1]; simp; omega
            · rw [x_hex_cons, e2, show (x_digit a * 16 + x_digit b) / 16 = x_digit a by omega, show (x_digit a * 16 + x_digit b) % 16 = x_digit b by omega, digit_back a ha, digit_back b hb]
          · right
            exact ⟨m, e1, by omega, by simp; omega⟩
theorem bytesOf_str (l : List Int) (h : IsB l) : bytesOf (strOfNums l) = l := by
  apply List.ext_getElem
  · rw [bytesOf_length, strOfNums_size]
  · intro i h1 h2
    have := h.get h2
    simp only [bytesOf, strOfNums_data, List.map_map, List.getElem_map, Function.comp]
    rw [show (UInt8.ofNat l[i].toNat).toNat = l[i].toNat % 256 from UInt8.toNat_ofNat', Nat.mod_eq_of_lt (by omega)]
    omega
theorem str_bytesOf (s : ByteArray) : strOfNums (bytesOf s) = s := by
  have : (strOfNums (bytesOf s)).data = s.data := by
    apply Array.toList_inj.1
    rw [strOfNums_data]
    apply List.ext_getElem
    · simp [bytesOf]
    · intro i h1 h2
      simp [bytesOf]
  cases s
  cases h : strOfNums (bytesOf _) 
  simp_all
theorem bytesOf_b (s : ByteArray) : IsB (bytesOf s) := by
  intro x hx
  simp only [bytesOf, List.mem_map] at hx
  obtain ⟨b, _, rfl⟩ := hx
  have := b.toNat_lt
  omega
theorem bt_dig (n : Int) (h0 : 0 ≤ n) (h1 : n < 16) : bt (⟨#[48, 49, 50, 51, 52, 53, 54, 55, 56, 57, 97, 98, 99, 100, 101, 102]⟩ : ByteArray) n = digAt n.toNat := by
  obtain ⟨j, rfl⟩ := Int.eq_ofNat_of_zero_le h0
  rcases lt16 (show j < 16 by omega) with rfl | rfl | rfl | rfl | rfl | rfl | rfl | rfl | rfl | rfl | rfl | rfl | rfl | rfl | rfl | rfl <;> rfl
theorem rhex_loop (l : List Int) (hb : IsB l) (hl : l.length ≤ 1048576) : ∀ (d k i : Nat), i + d = l.length → d < k → carillonref01_Hex.l0 k l (x_hex (l.take i)) (i : Int) = some (strOfNums (x_hex l)) := by
  intro d
  induction d with
  | zero =>
    intro k i hi hk
    obtain ⟨k, rfl⟩ : ∃ m, k = m + 1 := ⟨k - 1, by omega⟩
    rw [carillonref01_Hex.l0, if_neg (by omega), List.take_of_length_le (by omega)]
  | succ d ih =>
    intro k i hi hk
    obtain ⟨k, rfl⟩ : ∃ m, k = m + 1 := ⟨k - 1, by omega⟩
    have hc := hb.get (show i < l.length by omega)
    have e1 := x_tdiv (l[i]'(by omega)) 16 hc.1
    have e2 := x_tmod (l[i]'(by omega)) 16 (by omega)
    rw [if_pos hc.1] at e2
    have e5 : (l[i]'(by omega)) / 16 % 256 = (l[i]'(by omega)) / 16 := by omega
    rw [carillonref01_Hex.l0, if_pos (by omega), if_pos (by omega), rd_get l i (by omega), e1, e2, e5, if_pos (by omega), if_pos (by omega), if_pos (by omega), if_pos (by omega), bt_dig _ (by omega) (by omega), bt_dig _ (by omega) (by omega), wsucc i (by omega)]
    refine bind_to rfl ?_
    rw [if_pos (by rw [x_hex_len]; simp; omega)]
    have := ih k (i + 1) (by omega) (by omega)
    rw [x_hex_snoc l i (by omega)] at this
    exact this
theorem rhex_is (l : List Int) (hb : IsB l) (hl : l.length ≤ 1048576) (k : Nat) (hk : l.length < k) : carillonref01_Hex.f k l = some (strOfNums (x_hex l)) := by
  have := rhex_loop l hb hl l.length k 0 (by omega) hk
  exact this
theorem runhex_two (s : ByteArray) (i k : Nat) (acc : List Int) (hs : s.size ≤ 140737488351232) (hi : i + 1 < s.size) (he : i % 2 = 0) (ha : acc.length ≤ i) (hk : 16 < k) :
    carillonref01_Unhex.l0 (k + 2) s acc (i : Int) = if x_digit (bt s (i : Int)) < 0 then some ([], (i : Int), 4) else if x_digit (bt s ((i + 1 : Nat) : Int)) < 0 then some ([], (i : Int) + 1, 4) else
      carillonref01_Unhex.l0 k s (acc ++ [x_digit (bt s (i : Int)) * 16 + x_digit (bt s ((i + 1 : Nat) : Int))]) ((i + 2 : Nat) : Int) := by
  have hda := x_digit_bd (bt s (i : Int))
  have hdb := x_digit_bd (bt s ((i + 1 : Nat) : Int))
  have e3 := wsucc i (by omega)
  have e4 := wsucc (i + 1) (by omega)
  have p0 := x_tmod (i : Int) 2 (by omega)
  have p1 := x_tmod ((i + 1 : Nat) : Int) 2 (by omega)
  rw [if_pos (by omega)] at p0 p1
  rw [show k + 2 = (k + 1) + 1 from rfl, carillonref01_Unhex.l0, if_pos (by omega), if_pos (by omega)]
  refine bind_to (rdigit_is _ _ (by omega)) ?_
  split
  · rfl
  · rename_i h1
    rw [if_pos (by omega), if_pos (by omega), e3, carillonref01_Unhex.l0, if_pos (by omega), if_pos (by omega)]
    refine bind_to (rdigit_is _ _ (by omega)) ?_
    split
    · rfl
    · rename_i h2
      obtain ⟨x, hx⟩ : ∃ x, x = wrap64 (16 * x_digit (bt s (i : Int))) % 256 := ⟨_, rfl⟩
      have hx2 : x = 16 * x_digit (bt s (i : Int)) := by rw [hx, x_w64 (by omega) (by omega)]; omega
      rw [← hx]
      have hw : wrap64 (((acc ++ [x]).length : Int) - 1) = (acc.length : Int) := by simp; unfold wrap64; omega
      rw [if_neg (by omega), hw, if_pos (by omega), if_pos (by simp; omega), e4, Int.toNat_natCast, rd_get _ _ (by simp), List.getElem_append_right (by omega), List.set_append_right _ _ (by omega)]
      simp only [Nat.sub_self, List.set_cons_zero, List.getElem_cons_zero]
      rw [show (x + x_digit (bt s ((i + 1 : Nat) : Int)) % 256) % 256 = x_digit (bt s (i : Int)) * 16 + x_digit (bt s ((i + 1 : Nat) : Int)) by omega]
theorem runhex_one (s : ByteArray) (i k : Nat) (acc : List Int) (hs : s.size ≤ 140737488351232) (hi : i + 1 = s.size) (he : i % 2 = 0) (ha : acc.length ≤ i) (hk : 16 < k) :
    carillonref01_Unhex.l0 (k + 2) s acc (i : Int) = if x_digit (bt s (i : Int)) < 0 then some ([], (i : Int), 4) else some ([], (i : Int) + 1, 4) := by
  have hda := x_digit_bd (bt s (i : Int))
  have e3 := wsucc i (by omega)
  have p0 := x_tmod (i : Int) 2 (by omega)
  rw [if_pos (by omega)] at p0
  rw [show k + 2 = (k + 1) + 1 from rfl, carillonref01_Unhex.l0, if_pos (by omega), if_pos (by omega)]
  refine bind_to (rdigit_is _ _ (by omega)) ?_
  split
  · rfl
  · rename_i h1
    rw [if_pos (by omega), if_pos (by omega), e3, carillonref01_Unhex.l0, if_neg (by omega), if_pos (by omega), ← hi]
    rfl
theorem runhex_none (s : ByteArray) (i k : Nat) (acc : List Int) (hi : i = s.size) (he : i % 2 = 0) : carillonref01_Unhex.l0 (k + 1) s acc (i : Int) = some (acc, (i : Int), 0) := by
  rw [carillonref01_Unhex.l0, if_neg (by omega), if_neg (by omega), hi]
theorem runhex_loop (s : ByteArray) (hs : s.size ≤ 140737488351232) : ∀ (n i k : Nat) (acc : List Int), i + n = s.size → n + 17 < k → acc.length ≤ i → i % 2 = 0 →
    carillonref01_Unhex.l0 k s acc (i : Int) = some (uh ((bytesOf s).drop i) (i : Int) acc) := by
  intro n
  induction n using Nat.strongRecOn with
  | _ n ih =>
    intro i k acc hn hk ha he
    have hlen := bytesOf_length s
    match n with
    | 0 =>
      obtain ⟨k, rfl⟩ : ∃ m, k = m + 1 := ⟨k - 1, by omega⟩
      rw [runhex_none s i k acc (by omega) he, List.drop_of_length_le (by omega)]
      rfl
    | 1 =>
      obtain ⟨k, rfl⟩ : ∃ m, k = m + 2 := ⟨k - 2, by omega⟩
      have h1 : bt s (i : Int) = (bytesOf s)[i]'(by omega) := by rw [← rd_bytesOf, rd_get]
      rw [runhex_one s i k acc hs (by omega) he ha (by omega), List.drop_eq_getElem_cons (show i < (bytesOf s).length by omega), List.drop_of_length_le (by omega), h1]
      unfold uh
      split <;> rfl
    | n + 2 =>
      obtain ⟨k, rfl⟩ : ∃ m, k = m + 2 := ⟨k - 2, by omega⟩
      have h1 : bt s (i : Int) = (bytesOf s)[i]'(by omega) := by rw [← rd_bytesOf, rd_get]
      have h2 : bt s ((i + 1 : Nat) : Int) = (bytesOf s)[i + 1]'(by omega) := by rw [← rd_bytesOf, rd_get]
      rw [runhex_two s i k acc hs (by omega) he ha (by omega), List.drop_eq_getElem_cons (show i < (bytesOf s).length by omega), List.drop_eq_getElem_cons (show i + 1 < (bytesOf s).length by omega), h1, h2]
      unfold uh
      split
      · rfl
      · split
        · rfl
        · exact ih n (by omega) (i + 2) k _ (by omega) (by omega) (by simp; omega) (by omega)
theorem runhex_is (s : ByteArray) (hs : s.size ≤ 140737488351232) (k : Nat) (hk : s.size + 17 < k) : carillonref01_Unhex.f k s = some (uh (bytesOf s) 0 []) := by
  exact runhex_loop s hs s.size 0 k [] (by omega) hk (by simp) (by omega)
theorem WordDigits : WordDigits_U := by
  intro l s _ hl hlb hs
  have bl := IsB.wf hlb
  refine ⟨l.length + s.size + 20, ?_⟩
  unfold carillonlaw01_WordDigits.f
  refine bind_to (unhex_is s (by omega) _ (by omega)) (bind_to (runhex_is s (by omega) _ (by omega)) (bind_to (hex_is l bl hl) (bind_to (rhex_is l bl hl _ (by omega)) ?_)))
  rw [if_pos rfl, if_pos rfl, if_pos rfl, if_pos rfl]
  exact bind_to awake_is rfl
theorem WordDigits_walkU (P : WordDigits_U) (a0 : Option Addr) (len0 cap0 : Nat) (z0 : List Int) (a1 : ByteArray) (w : World) (w0 : (a0 = none ∧ len0 = 0 ∧ cap0 = 0 ∧ z0 = []) ∨ ∃ x, a0 = some x ∧ len0 ≤ cap0 ∧ cap0 ≤ maxLen ∧ z0.length = cap0 ∧ (∀ i, i < z0.length → w.cell? (x.add i) = some (.int .u8 (z0.getD i 0))) ∧ ∀ n ∈ z0, (Lit.int .u8 n).wf = true) (y0 : len0 ≤ 1048576) (w1 : a1.size ≤ 1048576) :
    Calls Try.prog 7 #[.slice a0 len0 cap0, .string a1] w fun e w' => e = .returned (.bool true) ∧ Below w.heap.size w w' := by
  obtain ⟨l0, rfl, hr0, hm0, hw0, hc0⟩ := ReadsInt.ofRowC w0
  obtain ⟨k, h⟩ := P l0 a1 hm0 y0 hw0 w1
  refine (carillonlaw01_WordDigits.calls k _ _ l0 a1 true w (Kd.C_of_reads (d := (0 : Int)) (h1 := fun _ => rfl) hr0) hc0 h).mono ?_
  rintro e w' ⟨rfl, hd⟩
  exact ⟨rfl, hd⟩


end Go.Proofs.Ytedgfhnjmlefnaa.Pure
