/- Proved: carillonlaw06.BitsBack returns true: numbers that are put with their widths are got with them, one by one, and nothing is left. Conditions: none. -/
import Derived.Test.YtaoiamifofkklaaPBitsx1
import Derived.Test.YtaoiamifofkklaaX1Pure
import Derived.Test.YtaoiamifofkklaaXBitsG
namespace Go.Proofs.Ytaoiamifofkklaa.Pure
open Go.RowKit Go.Proofs.Ytaoiamifofkklaa.PBits Go.Proofs.YtaoiamifofkklaaW.PrintWords Go.Proofs.YtaoiamifofkklaaW.PrintLast Go.Proofs.YtaoiamifofkklaaW.PrintMore
set_option linter.unusedVariables false
set_option linter.unusedSimpArgs false
open Go.Proofs.Ytaoiamifofkklaa.Obj
def mI (y : Int) : Nat := y.toNat % 65
def xI (n y : Int) : Nat := n.toNat % 2 ^ mI y
def lst (l1 l2 : List Int) (k : Nat) : List Bool := (List.range k).flatMap fun i => bitsOf (xI (l1.getD i 0) (l2.getD i 0)) (mI (l2.getD i 0))
theorem mI_le (y : Int) : mI y ≤ 64 := by unfold mI; omega
theorem xI_lt (n y : Int) : xI n y < 2 ^ mI y := Nat.mod_lt _ (Nat.two_pow_pos _)
theorem xI_lt64 (n y : Int) : xI n y < 18446744073709551616 := Nat.lt_of_lt_of_le (xI_lt n y) (Nat.pow_le_pow_right (by omega) (mI_le y))
theorem lst_succ (l1 l2 : List Int) (k : Nat) : lst l1 l2 (k + 1) = lst l1 l2 k ++ bitsOf (xI (l1.getD k 0) (l2.getD k 0)) (mI (l2.getD k 0)) := by
  unfold lst; rw [List.range_succ, List.flatMap_append]; simp
theorem lst_len (l1 l2 : List Int) (k : Nat) : (lst l1 l2 k).length ≤ 64 * k := by
  induction k with
  | zero => simp [lst]
  | succ k ih => rw [lst_succ, List.length_append, bitsOf_len]; have := mI_le (l2.getD k 0); omega
theorem lst_pre (l1 l2 : List Int) (k j : Nat) : ∃ r, lst l1 l2 (k + j) = lst l1 l2 k ++ r := by
  induction j with
  | zero => exact ⟨[], by simp⟩
  | succ j ih =>
    obtain ⟨r, hr⟩ := ih
    exact ⟨r ++ bitsOf (xI (l1.getD (k + j) 0) (l2.getD (k + j) 0)) (mI (l2.getD (k + j) 0)), by rw [← Nat.add_assoc, lst_succ, hr, List.append_assoc]⟩
theorem bitsOf_get (n w i : Nat) (h : i < w) : (bitsOf n w).getD i false = n.testBit (w - 1 - i) := by
  unfold bitsOf
  rw [List.getD_eq_getElem?_getD, List.getElem?_map, List.getElem?_range h]; rfl
theorem lst_num (l1 l2 : List Int) (K i : Nat) (h : i < K) : numB (pack (lst l1 l2 K)) (lst l1 l2 i).length (mI (l2.getD i 0)) = xI (l1.getD i 0) (l2.getD i 0) := by
  refine num_all _ _ _ _ (xI_lt _ _) (fun j hj => ?_)
  obtain ⟨r, hr⟩ := lst_pre l1 l2 (i + 1) (K - (i + 1))
  rw [show i + 1 + (K - (i + 1)) = K by omega, lst_succ, List.append_assoc] at hr
  rw [bit_pack, hr, ← bitsOf_get _ _ _ hj, List.getD_eq_getElem?_getD, List.getElem?_append_right (by omega), Nat.add_sub_cancel_left, List.getElem?_append_left (by rw [bitsOf_len]; exact hj), ← List.getD_eq_getElem?_getD]
theorem lst_mono (l1 l2 : List Int) (K i : Nat) (h : i < K) : (lst l1 l2 i).length + mI (l2.getD i 0) ≤ (lst l1 l2 K).length := by
  obtain ⟨r, hr⟩ := lst_pre l1 l2 (i + 1) (K - (i + 1))
  rw [show i + 1 + (K - (i + 1)) = K by omega, lst_succ] at hr
  rw [hr, List.length_append, List.length_append, bitsOf_len]; omega
theorem and_mask (a m : Nat) (ha : a < 18446744073709551616) (hm : m < 64) : Go.bits .and .u64 (a : Int) (IntKind.u64.wrap (IntKind.u64.wrap (2 ^ m) - 1)) = ((a % 2 ^ m : Nat) : Int) := by
  have hp : 2 ^ m ≤ 2 ^ 63 := Nat.pow_le_pow_right (by omega) (by omega)
  have hp0 : 0 < 2 ^ m := Nat.two_pow_pos m
  have e0 : (2 : Int) ^ m = ((2 ^ m : Nat) : Int) := by simp
  have e : IntKind.u64.wrap (IntKind.u64.wrap (2 ^ m) - 1) = ((2 ^ m - 1 : Nat) : Int) := by
    rw [e0, x_wrap_u64', x_wrap_u64']
    generalize 2 ^ m = q at hp hp0 ⊢
    omega
  rw [e, ← Nat.and_two_pow_sub_one_eq_mod]
  generalize 2 ^ m = q at hp hp0 ⊢
  have e1 : (a : Int) = ((BitVec.ofNat 64 a).toNat : Int) := by rw [BitVec.toNat_ofNat, Nat.mod_eq_of_lt (by omega)]
  have e2 : ((q - 1 : Nat) : Int) = ((BitVec.ofNat 64 (q - 1)).toNat : Int) := by rw [BitVec.toNat_ofNat, Nat.mod_eq_of_lt (by omega)]
  rw [e1, e2, x_and64, BitVec.toNat_and, BitVec.toNat_ofNat, BitVec.toNat_ofNat, Nat.mod_eq_of_lt (by omega), Nat.mod_eq_of_lt (by omega)]
set_option maxHeartbeats 8000000 in
set_option maxRecDepth 100000 in
theorem back_main (K : Nat) (A0 : Option Addr) (c0 : Nat) (l1 : List Int) (A1 : Option Addr) (c1 : Nat) (l2 : List Int) (w : World) (len1 len2 : Nat) (hr1 : Kd.C (Kd.int .u64) w A0 len1 l1) (hw1 : ∀ x ∈ l1, (Lit.int .u64 x).wf = true) (hr2 : Kd.C (Kd.int .u8) w A1 len2 l2) (hb2 : IsB l2)
    (h1 : len1 ≤ 140737488351232) (h2 : len2 ≤ 140737488351232) (hK1 : K ≤ len1) (hK2 : K ≤ len2) (hK3 : K ≤ 100) (hK : (K = len1) ∨ (K < len1 ∧ K = len2) ∨ (K < len1 ∧ K < len2 ∧ K = 100)) :
    Calls Try.prog 7 #[.slice A0 len1 c0, .slice A1 len2 c1] w fun e w' => e = .returned (.bool true) ∧ Below w.heap.size w w' := by
  have HR1 := Aside0.mk hr1
  have HR2 := Aside0.mk hr2
  have HW1 := Aside0.mk hw1
  have HB2 := Aside0.mk hb2
  have HN1 := Aside0.mk hr1.1
  have HN2 := Aside0.mk hr2.1
  have HK := Aside0.mk hK
  clear hr1 hr2 hw1 hb2 hK
  go_enter Try.func7, Try.ntmps7
  go_wp2_with (go_at_call 14; refine (bt_new _).mono ?_; rintro e w1 ⟨B, rfl, hW, hb, _⟩; have HWR := Aside0.mk hW; have HBL := Aside0.mk hb; clear hW hb)
  go_loopw [6] (fun v6 wr => ∃ k : Nat, k ≤ K ∧ v6 = .int .i64 k ∧ ∃ vr, Aside0 (WrL wr w.heap.size B vr (lst l1 l2 k)) ∧ Aside0 (Below w.heap.size w wr)) (fun v6 _ => K - (intOf v6).toNat)
  case atStart => exact ⟨0, Nat.zero_le _, rfl, _, HWR, HBL⟩
  case round =>
    obtain ⟨k, hk, rfl, vr, KW, KB⟩ := hrel
    by_cases hlt : k < K
    · obtain ⟨ad0, rfl, hc0⟩ := (Kd.reads_of_C (enc := Value.int .u64) (d := (0 : Int)) (h1 := fun _ => rfl) (Kd.C_below HR1.out KB.out)).2.2 (by omega)
      obtain ⟨ad1, rfl, hc1⟩ := (Kd.reads_of_C (enc := Value.int .u8) (d := (0 : Int)) (h1 := fun _ => rfl) (Kd.C_below HR2.out KB.out)).2.2 (by omega)
      have x0 := hc0 k (by omega)
      have x1 := hc1 k (by omega)
      have t1 : (k : Int) < (len1 : Int) := by omega
      have t2 : (k : Int) < (len2 : Int) := by omega
      have t3 : (k : Int) < 100 := by omega
      obtain ⟨a, ha⟩ : ∃ a, l1.getD k 0 = a := ⟨_, rfl⟩
      obtain ⟨y, hy⟩ : ∃ y, l2.getD k 0 = y := ⟨_, rfl⟩
      have hab : 0 ≤ a ∧ a < 18446744073709551616 := by
        have hl := HN1.out
        have hm : a ∈ l1 := by rw [← ha, List.getD_eq_getElem?_getD, List.getElem?_eq_getElem (show k < l1.length by omega)]; exact List.getElem_mem _
        exact x_wf64 (HW1.out a hm)
      have hyb : 0 ≤ y ∧ y < 256 := by
        have hl := HN2.out
        have := HB2.out.get (i := k) (by omega)
        rw [← hy, List.getD_eq_getElem?_getD, List.getElem?_eq_getElem (show k < l2.length by omega)]
        exact this
      have hsucc := lst_succ l1 l2 k
      rw [ha, hy] at hsucc
      rw [ha] at x0
      rw [hy] at x1
      obtain ⟨a, rfl⟩ : ∃ q : Nat, a = (q : Int) := ⟨a.toNat, by omega⟩
      obtain ⟨y, rfl⟩ : ∃ q : Nat, y = (q : Int) := ⟨y.toNat, by omega⟩
      obtain ⟨m, hm⟩ : ∃ m, y % 65 = m := ⟨_, rfl⟩
      have hmy : mI (y : Int) = m := by unfold mI; rw [Int.toNat_natCast]; exact hm
      have hxy : xI (a : Int) (y : Int) = a % 2 ^ m := by unfold xI; rw [hmy, Int.toNat_natCast]
      rw [hmy, hxy] at hsucc
      have hm65 : (y : Int) % 65 = (m : Int) := by omega
      have hm64 : m ≤ 64 := by omega
      have HS := Aside0.mk hsucc
      have hll := lst_len l1 l2 k
      clear hc0 hc1 HWR HBL ha hy hsucc hmy hxy hm
      by_cases hm6 : m < 64
      · have HM := Aside0.mk (and_mask a m (by omega) hm6)
        have HD := Aside0.mk (Nat.div_eq_of_lt (Nat.mod_lt a (Nat.two_pow_pos m)))
        have HLT := Aside0.mk (show a % 2 ^ m < 18446744073709551616 from Nat.lt_of_le_of_lt (Nat.mod_le _ _) (by omega))
        go_wp2_with (go_at_call 15; refine (bt_put_i B _ vr (lst l1 l2 k) _ _ (a % 2 ^ m) m _ HM.out rfl KW.out hm64 HLT.out (fun _ => HD.out) (by omega)).mono ?_; rintro e w2 ⟨v2, rfl, hW2, _, hb2⟩; have HW2 := Aside0.mk hW2; have HB2 := Aside0.mk hb2; clear hW2 hb2)
        go_roundw
        case rel => exact ⟨k + 1, by omega, by simp, v2, ⟨by rw [HS.out]; exact HW2.out⟩, ⟨KB.out.trans HB2.out⟩⟩
        case measure => simp [intOf]; omega
      · obtain rfl : m = 64 := by omega
        have HM := Aside0.mk (Nat.mod_eq_of_lt (show a < 2 ^ 64 by omega))
        rw [HM.out] at HS
        have hm65' : (y : Int) % 65 = 64 := hm65
        clear hm65
        go_wp2_with (go_at_call 15; refine (bt_put_i B _ vr (lst l1 l2 k) _ _ a 64 _ rfl rfl KW.out hm64 (by omega) (by omega) (by omega)).mono ?_; rintro e w2 ⟨v2, rfl, hW2, _, hb2⟩; have HW2 := Aside0.mk hW2; have HB2 := Aside0.mk hb2; clear hW2 hb2)
        go_roundw
        case rel => exact ⟨k + 1, by omega, by simp, v2, ⟨by rw [HS.out]; exact HW2.out⟩, ⟨KB.out.trans HB2.out⟩⟩
        case measure => simp [intOf]; omega
    · obtain rfl : k = K := by omega
      have hll := lst_len l1 l2 k
      clear HWR HBL hlt
      rcases HK.out with hk0 | ⟨hk0, hk1⟩ | ⟨hk0, hk1, hk2⟩
      · subst hk0
        go_wp2_with (first
          | (go_at_call 20; refine (bt_done B _ vr (lst l1 l2 k) _ KW.out (by omega)).mono ?_; rintro e w2 ⟨v3, rfl, hR, hb⟩; obtain ⟨A3, c3, rfl, hl3, hC3⟩ := Kd.R_reads hR; have HC3 := Aside0.mk hC3; have HB3 := Aside0.mk (below_step KB.out hb); clear hR hb hl3 hC3)
          | (go_at_call 37; refine (bt_reader A3 (pack (lst l1 l2 k)).length c3 (pack (lst l1 l2 k)) _ HC3.out (by rw [pack_len]; omega)).mono ?_; rintro e w4 ⟨B2, v2, rfl, hR2, hb2⟩; have HR4 := Aside0.mk hR2; have HS2 := HB3.out.size; have HB4 := Aside0.mk (below_step HB3.out hb2); clear hR2 hb2))
        go_loopw [10] (fun v10 wr => ∃ i : Nat, i ≤ k ∧ v10 = .int .i64 i ∧ Aside0 (Rd wr w2.heap.size B2 v2 (pack (lst l1 l2 k)) (lst l1 l2 i).length) ∧ Aside0 (Below w.heap.size w wr)) (fun v10 _ => k - (intOf v10).toNat)
        case atStart => exact ⟨0, Nat.zero_le _, rfl, HR4, HB4⟩
        case round =>
          clear HR4 HB4
          obtain ⟨i, hi, rfl, KR, KB5⟩ := hrel
          by_cases hlt2 : i < k
          · obtain ⟨ad0, rfl, hc0⟩ := (Kd.reads_of_C (enc := Value.int .u64) (d := (0 : Int)) (h1 := fun _ => rfl) (Kd.C_below HR1.out KB5.out)).2.2 (by omega)
            obtain ⟨ad1, rfl, hc1⟩ := (Kd.reads_of_C (enc := Value.int .u8) (d := (0 : Int)) (h1 := fun _ => rfl) (Kd.C_below HR2.out KB5.out)).2.2 (by omega)
            have x0 := hc0 i (by omega)
            have x1 := hc1 i (by omega)
            obtain ⟨a, ha⟩ : ∃ a, l1.getD i 0 = a := ⟨_, rfl⟩
            obtain ⟨y, hy⟩ : ∃ y, l2.getD i 0 = y := ⟨_, rfl⟩
            have hab : 0 ≤ a ∧ a < 18446744073709551616 := by
              have hl := HN1.out
              have hm : a ∈ l1 := by rw [← ha, List.getD_eq_getElem?_getD, List.getElem?_eq_getElem (show i < l1.length by omega)]; exact List.getElem_mem _
              exact x_wf64 (HW1.out a hm)
            have hyb : 0 ≤ y ∧ y < 256 := by
              have hl := HN2.out
              have := HB2.out.get (i := i) (by omega)
              rw [← hy, List.getD_eq_getElem?_getD, List.getElem?_eq_getElem (show i < l2.length by omega)]
              exact this
            have hsucc := lst_succ l1 l2 i
            have hnum := lst_num l1 l2 k i hlt2
            have hmono := lst_mono l1 l2 k i hlt2
            rw [ha, hy] at hsucc hnum
            rw [hy] at hmono
            rw [ha] at x0
            rw [hy] at x1
            obtain ⟨a, rfl⟩ : ∃ q : Nat, a = (q : Int) := ⟨a.toNat, by omega⟩
            obtain ⟨y, rfl⟩ : ∃ q : Nat, y = (q : Int) := ⟨y.toNat, by omega⟩
            obtain ⟨m, hm⟩ : ∃ m, y % 65 = m := ⟨_, rfl⟩
            have hmy : mI (y : Int) = m := by unfold mI; rw [Int.toNat_natCast]; exact hm
            have hxy : xI (a : Int) (y : Int) = a % 2 ^ m := by unfold xI; rw [hmy, Int.toNat_natCast]
            rw [hmy, hxy] at hsucc hnum
            rw [hmy] at hmono
            have hm65 : (y : Int) % 65 = (m : Int) := by omega
            have hm64 : m ≤ 64 := by omega
            have hlen2 : (lst l1 l2 (i + 1)).length = (lst l1 l2 i).length + m := by rw [hsucc, List.length_append, bitsOf_len]
            have HS := Aside0.mk hlen2
            have HNUM := Aside0.mk hnum
            have HPL := Aside0.mk (pack_len (lst l1 l2 k))
            have HPB : Aside0 (IsB (pack (lst l1 l2 k))) := ⟨pack_b _⟩
            clear hc0 hc1 ha hy hsucc hmy hxy hm hlen2 hnum
            by_cases hm6 : m < 64
            · have HM := Aside0.mk (and_mask a m (by omega) hm6)
              go_wp2_with (go_at_call 38; refine (bt_get B2 _ v2 (pack (lst l1 l2 k)) (lst l1 l2 i).length m _ KR.out HPB.out (by rw [HPL.out]; omega) (by rw [HPL.out]; omega) hm64).mono ?_; rintro e w5 ⟨he, hR5, _, hb5⟩; rw [HNUM.out] at he; subst he; have HR5 := Aside0.mk hR5; have HB5 := Aside0.mk (KB5.out.trans (hb5.mono HS2)); have hMM := HM.out; clear hR5 hb5)
              go_roundw
              case rel => exact ⟨i + 1, by omega, by simp, ⟨by rw [HS.out]; exact HR5.out⟩, HB5⟩
              case measure => simp [intOf]; omega
            · obtain rfl : m = 64 := by omega
              rw [Nat.mod_eq_of_lt (show a < 2 ^ 64 by omega)] at HNUM
              have hm65' : (y : Int) % 65 = 64 := hm65
              clear hm65
              have HG := Aside0.mk (bt_get B2 _ v2 (pack (lst l1 l2 k)) (lst l1 l2 i).length 64 _ KR.out HPB.out (by rw [HPL.out]; omega) (by rw [HPL.out]; omega) hm64)
              go_wp2_with (go_at_call 38; refine HG.out.mono ?_; rintro e w5 ⟨he, hR5, _, hb5⟩; rw [HNUM.out] at he; subst he; have HR5 := Aside0.mk hR5; have HB5 := Aside0.mk (KB5.out.trans (hb5.mono HS2)); clear hR5 hb5)
              go_roundw
              case rel => exact ⟨i + 1, by omega, by simp, ⟨by rw [HS.out]; exact HR5.out⟩, HB5⟩
              case measure => simp [intOf]; omega
          · obtain rfl : i = k := by omega
            have HPL := Aside0.mk (pack_len (lst l1 l2 i))
            have HPB : Aside0 (IsB (pack (lst l1 l2 i))) := ⟨pack_b _⟩
            go_wp2_with (first
              | (go_at_call 39; refine (bt_end B2 _ v2 (pack (lst l1 l2 i)) (lst l1 l2 i).length _ KR.out HPB.out (by rw [HPL.out]; omega) (by rw [HPL.out]; omega) (by rw [HPL.out]; omega) (fun j hj => by rw [bit_pack, List.getD_eq_getElem?_getD, List.getElem?_eq_none hj]; rfl)).mono ?_; rintro e w6 ⟨rfl, hd⟩; have HB6 := Aside0.mk (below_step KB5.out hd.below); clear hd)
              | (go_at_call 22; refine (bt_awake _).mono ?_; rintro e w7 ⟨rfl, hb7⟩))
            go_ret
            exact ⟨rfl, below_step HB6.out hb7⟩
      · subst hk1
        go_wp2_with (first
          | (go_at_call 20; refine (bt_done B _ vr (lst l1 l2 k) _ KW.out (by omega)).mono ?_; rintro e w2 ⟨v3, rfl, hR, hb⟩; obtain ⟨A3, c3, rfl, hl3, hC3⟩ := Kd.R_reads hR; have HC3 := Aside0.mk hC3; have HB3 := Aside0.mk (below_step KB.out hb); clear hR hb hl3 hC3)
          | (go_at_call 37; refine (bt_reader A3 (pack (lst l1 l2 k)).length c3 (pack (lst l1 l2 k)) _ HC3.out (by rw [pack_len]; omega)).mono ?_; rintro e w4 ⟨B2, v2, rfl, hR2, hb2⟩; have HR4 := Aside0.mk hR2; have HS2 := HB3.out.size; have HB4 := Aside0.mk (below_step HB3.out hb2); clear hR2 hb2))
        go_loopw [10] (fun v10 wr => ∃ i : Nat, i ≤ k ∧ v10 = .int .i64 i ∧ Aside0 (Rd wr w2.heap.size B2 v2 (pack (lst l1 l2 k)) (lst l1 l2 i).length) ∧ Aside0 (Below w.heap.size w wr)) (fun v10 _ => k - (intOf v10).toNat)
        case atStart => exact ⟨0, Nat.zero_le _, rfl, HR4, HB4⟩
        case round =>
          clear HR4 HB4
          obtain ⟨i, hi, rfl, KR, KB5⟩ := hrel
          by_cases hlt2 : i < k
          · obtain ⟨ad0, rfl, hc0⟩ := (Kd.reads_of_C (enc := Value.int .u64) (d := (0 : Int)) (h1 := fun _ => rfl) (Kd.C_below HR1.out KB5.out)).2.2 (by omega)
            obtain ⟨ad1, rfl, hc1⟩ := (Kd.reads_of_C (enc := Value.int .u8) (d := (0 : Int)) (h1 := fun _ => rfl) (Kd.C_below HR2.out KB5.out)).2.2 (by omega)
            have x0 := hc0 i (by omega)
            have x1 := hc1 i (by omega)
            obtain ⟨a, ha⟩ : ∃ a, l1.getD i 0 = a := ⟨_, rfl⟩
            obtain ⟨y, hy⟩ : ∃ y, l2.getD i 0 = y := ⟨_, rfl⟩
            have hab : 0 ≤ a ∧ a < 18446744073709551616 := by
              have hl := HN1.out
              have hm : a ∈ l1 := by rw [← ha, List.getD_eq_getElem?_getD, List.getElem?_eq_getElem (show i < l1.length by omega)]; exact List.getElem_mem _
              exact x_wf64 (HW1.out a hm)
            have hyb : 0 ≤ y ∧ y < 256 := by
              have hl := HN2.out
              have := HB2.out.get (i := i) (by omega)
              rw [← hy, List.getD_eq_getElem?_getD, List.getElem?_eq_getElem (show i < l2.length by omega)]
              exact this
            have hsucc := lst_succ l1 l2 i
            have hnum := lst_num l1 l2 k i hlt2
            have hmono := lst_mono l1 l2 k i hlt2
            rw [ha, hy] at hsucc hnum
            rw [hy] at hmono
            rw [ha] at x0
            rw [hy] at x1
            obtain ⟨a, rfl⟩ : ∃ q : Nat, a = (q : Int) := ⟨a.toNat, by omega⟩
            obtain ⟨y, rfl⟩ : ∃ q : Nat, y = (q : Int) := ⟨y.toNat, by omega⟩
            obtain ⟨m, hm⟩ : ∃ m, y % 65 = m := ⟨_, rfl⟩
            have hmy : mI (y : Int) = m := by unfold mI; rw [Int.toNat_natCast]; exact hm
            have hxy : xI (a : Int) (y : Int) = a % 2 ^ m := by unfold xI; rw [hmy, Int.toNat_natCast]
            rw [hmy, hxy] at hsucc hnum
            rw [hmy] at hmono
            have hm65 : (y : Int) % 65 = (m : Int) := by omega
            have hm64 : m ≤ 64 := by omega
            have hlen2 : (lst l1 l2 (i + 1)).length = (lst l1 l2 i).length + m := by rw [hsucc, List.length_append, bitsOf_len]
            have HS := Aside0.mk hlen2
            have HNUM := Aside0.mk hnum
            have HPL := Aside0.mk (pack_len (lst l1 l2 k))
            have HPB : Aside0 (IsB (pack (lst l1 l2 k))) := ⟨pack_b _⟩
            clear hc0 hc1 ha hy hsucc hmy hxy hm hlen2 hnum
            by_cases hm6 : m < 64
            · have HM := Aside0.mk (and_mask a m (by omega) hm6)
              go_wp2_with (go_at_call 38; refine (bt_get B2 _ v2 (pack (lst l1 l2 k)) (lst l1 l2 i).length m _ KR.out HPB.out (by rw [HPL.out]; omega) (by rw [HPL.out]; omega) hm64).mono ?_; rintro e w5 ⟨he, hR5, _, hb5⟩; rw [HNUM.out] at he; subst he; have HR5 := Aside0.mk hR5; have HB5 := Aside0.mk (KB5.out.trans (hb5.mono HS2)); have hMM := HM.out; clear hR5 hb5)
              go_roundw
              case rel => exact ⟨i + 1, by omega, by simp, ⟨by rw [HS.out]; exact HR5.out⟩, HB5⟩
              case measure => simp [intOf]; omega
            · obtain rfl : m = 64 := by omega
              rw [Nat.mod_eq_of_lt (show a < 2 ^ 64 by omega)] at HNUM
              have hm65' : (y : Int) % 65 = 64 := hm65
              clear hm65
              have HG := Aside0.mk (bt_get B2 _ v2 (pack (lst l1 l2 k)) (lst l1 l2 i).length 64 _ KR.out HPB.out (by rw [HPL.out]; omega) (by rw [HPL.out]; omega) hm64)
              go_wp2_with (go_at_call 38; refine HG.out.mono ?_; rintro e w5 ⟨he, hR5, _, hb5⟩; rw [HNUM.out] at he; subst he; have HR5 := Aside0.mk hR5; have HB5 := Aside0.mk (KB5.out.trans (hb5.mono HS2)); clear hR5 hb5)
              go_roundw
              case rel => exact ⟨i + 1, by omega, by simp, ⟨by rw [HS.out]; exact HR5.out⟩, HB5⟩
              case measure => simp [intOf]; omega
          · obtain rfl : i = k := by omega
            have HPL := Aside0.mk (pack_len (lst l1 l2 i))
            have HPB : Aside0 (IsB (pack (lst l1 l2 i))) := ⟨pack_b _⟩
            go_wp2_with (first
              | (go_at_call 39; refine (bt_end B2 _ v2 (pack (lst l1 l2 i)) (lst l1 l2 i).length _ KR.out HPB.out (by rw [HPL.out]; omega) (by rw [HPL.out]; omega) (by rw [HPL.out]; omega) (fun j hj => by rw [bit_pack, List.getD_eq_getElem?_getD, List.getElem?_eq_none hj]; rfl)).mono ?_; rintro e w6 ⟨rfl, hd⟩; have HB6 := Aside0.mk (below_step KB5.out hd.below); clear hd)
              | (go_at_call 22; refine (bt_awake _).mono ?_; rintro e w7 ⟨rfl, hb7⟩))
            go_ret
            exact ⟨rfl, below_step HB6.out hb7⟩
      · have hk3 : 100 ≤ k := by omega
        clear hk2
        go_wp2_with (first
          | (go_at_call 20; refine (bt_done B _ vr (lst l1 l2 k) _ KW.out (by omega)).mono ?_; rintro e w2 ⟨v3, rfl, hR, hb⟩; obtain ⟨A3, c3, rfl, hl3, hC3⟩ := Kd.R_reads hR; have HC3 := Aside0.mk hC3; have HB3 := Aside0.mk (below_step KB.out hb); clear hR hb hl3 hC3)
          | (go_at_call 37; refine (bt_reader A3 (pack (lst l1 l2 k)).length c3 (pack (lst l1 l2 k)) _ HC3.out (by rw [pack_len]; omega)).mono ?_; rintro e w4 ⟨B2, v2, rfl, hR2, hb2⟩; have HR4 := Aside0.mk hR2; have HS2 := HB3.out.size; have HB4 := Aside0.mk (below_step HB3.out hb2); clear hR2 hb2))
        go_loopw [10] (fun v10 wr => ∃ i : Nat, i ≤ k ∧ v10 = .int .i64 i ∧ Aside0 (Rd wr w2.heap.size B2 v2 (pack (lst l1 l2 k)) (lst l1 l2 i).length) ∧ Aside0 (Below w.heap.size w wr)) (fun v10 _ => k - (intOf v10).toNat)
        case atStart => exact ⟨0, Nat.zero_le _, rfl, HR4, HB4⟩
        case round =>
          clear HR4 HB4
          obtain ⟨i, hi, rfl, KR, KB5⟩ := hrel
          by_cases hlt2 : i < k
          · obtain ⟨ad0, rfl, hc0⟩ := (Kd.reads_of_C (enc := Value.int .u64) (d := (0 : Int)) (h1 := fun _ => rfl) (Kd.C_below HR1.out KB5.out)).2.2 (by omega)
            obtain ⟨ad1, rfl, hc1⟩ := (Kd.reads_of_C (enc := Value.int .u8) (d := (0 : Int)) (h1 := fun _ => rfl) (Kd.C_below HR2.out KB5.out)).2.2 (by omega)
            have x0 := hc0 i (by omega)
            have x1 := hc1 i (by omega)
            obtain ⟨a, ha⟩ : ∃ a, l1.getD i 0 = a := ⟨_, rfl⟩
            obtain ⟨y, hy⟩ : ∃ y, l2.getD i 0 = y := ⟨_, rfl⟩
            have hab : 0 ≤ a ∧ a < 18446744073709551616 := by
              have hl := HN1.out
              have hm : a ∈ l1 := by rw [← ha, List.getD_eq_getElem?_getD, List.getElem?_eq_getElem (show i < l1.length by omega)]; exact List.getElem_mem _
              exact x_wf64 (HW1.out a hm)
            have hyb : 0 ≤ y ∧ y < 256 := by
              have hl := HN2.out
              have := HB2.out.get (i := i) (by omega)
              rw [← hy, List.getD_eq_getElem?_getD, List.getElem?_eq_getElem (show i < l2.length by omega)]
              exact this
            have hsucc := lst_succ l1 l2 i
            have hnum := lst_num l1 l2 k i hlt2
            have hmono := lst_mono l1 l2 k i hlt2
            rw [ha, hy] at hsucc hnum
            rw [hy] at hmono
            rw [ha] at x0
            rw [hy] at x1
            obtain ⟨a, rfl⟩ : ∃ q : Nat, a = (q : Int) := ⟨a.toNat, by omega⟩
            obtain ⟨y, rfl⟩ : ∃ q : Nat, y = (q : Int) := ⟨y.toNat, by omega⟩
            obtain ⟨m, hm⟩ : ∃ m, y % 65 = m := ⟨_, rfl⟩
            have hmy : mI (y : Int) = m := by unfold mI; rw [Int.toNat_natCast]; exact hm
            have hxy : xI (a : Int) (y : Int) = a % 2 ^ m := by unfold xI; rw [hmy, Int.toNat_natCast]
            rw [hmy, hxy] at hsucc hnum
            rw [hmy] at hmono
            have hm65 : (y : Int) % 65 = (m : Int) := by omega
            have hm64 : m ≤ 64 := by omega
            have hlen2 : (lst l1 l2 (i + 1)).length = (lst l1 l2 i).length + m := by rw [hsucc, List.length_append, bitsOf_len]
            have HS := Aside0.mk hlen2
            have HNUM := Aside0.mk hnum
            have HPL := Aside0.mk (pack_len (lst l1 l2 k))
            have HPB : Aside0 (IsB (pack (lst l1 l2 k))) := ⟨pack_b _⟩
            clear hc0 hc1 ha hy hsucc hmy hxy hm hlen2 hnum
            by_cases hm6 : m < 64
            · have HM := Aside0.mk (and_mask a m (by omega) hm6)
              go_wp2_with (go_at_call 38; refine (bt_get B2 _ v2 (pack (lst l1 l2 k)) (lst l1 l2 i).length m _ KR.out HPB.out (by rw [HPL.out]; omega) (by rw [HPL.out]; omega) hm64).mono ?_; rintro e w5 ⟨he, hR5, _, hb5⟩; rw [HNUM.out] at he; subst he; have HR5 := Aside0.mk hR5; have HB5 := Aside0.mk (KB5.out.trans (hb5.mono HS2)); have hMM := HM.out; clear hR5 hb5)
              go_roundw
              case rel => exact ⟨i + 1, by omega, by simp, ⟨by rw [HS.out]; exact HR5.out⟩, HB5⟩
              case measure => simp [intOf]; omega
            · obtain rfl : m = 64 := by omega
              rw [Nat.mod_eq_of_lt (show a < 2 ^ 64 by omega)] at HNUM
              have hm65' : (y : Int) % 65 = 64 := hm65
              clear hm65
              have HG := Aside0.mk (bt_get B2 _ v2 (pack (lst l1 l2 k)) (lst l1 l2 i).length 64 _ KR.out HPB.out (by rw [HPL.out]; omega) (by rw [HPL.out]; omega) hm64)
              go_wp2_with (go_at_call 38; refine HG.out.mono ?_; rintro e w5 ⟨he, hR5, _, hb5⟩; rw [HNUM.out] at he; subst he; have HR5 := Aside0.mk hR5; have HB5 := Aside0.mk (KB5.out.trans (hb5.mono HS2)); clear hR5 hb5)
              go_roundw
              case rel => exact ⟨i + 1, by omega, by simp, ⟨by rw [HS.out]; exact HR5.out⟩, HB5⟩
              case measure => simp [intOf]; omega
          · obtain rfl : i = k := by omega
            have HPL := Aside0.mk (pack_len (lst l1 l2 i))
            have HPB : Aside0 (IsB (pack (lst l1 l2 i))) := ⟨pack_b _⟩
            go_wp2_with (first
              | (go_at_call 39; refine (bt_end B2 _ v2 (pack (lst l1 l2 i)) (lst l1 l2 i).length _ KR.out HPB.out (by rw [HPL.out]; omega) (by rw [HPL.out]; omega) (by rw [HPL.out]; omega) (fun j hj => by rw [bit_pack, List.getD_eq_getElem?_getD, List.getElem?_eq_none hj]; rfl)).mono ?_; rintro e w6 ⟨rfl, hd⟩; have HB6 := Aside0.mk (below_step KB5.out hd.below); clear hd)
              | (go_at_call 22; refine (bt_awake _).mono ?_; rintro e w7 ⟨rfl, hb7⟩))
            go_ret
            exact ⟨rfl, below_step HB6.out hb7⟩
theorem BitsBack : carillonlaw06_BitsBack.Pure := by
  intro A0 c0 l0 A1 c1 l1 w hr0 hc0 hm0 y0 hw0 hr1 hc1 hm1 y1 hw1
  have h0 : l0.length ≤ 140737488351232 := by omega
  have h1 : l1.length ≤ 140737488351232 := by omega
  by_cases hA : l0.length ≤ l1.length ∧ l0.length ≤ 100
  · exact back_main l0.length A0 c0 l0 A1 c1 l1 w _ _ hr0 hw0 hr1 (IsB.wf hw1) h0 h1 (by omega) (by omega) (by omega) (.inl rfl)
  · by_cases hB : l1.length ≤ 100
    · exact back_main l1.length A0 c0 l0 A1 c1 l1 w _ _ hr0 hw0 hr1 (IsB.wf hw1) h0 h1 (by omega) (by omega) (by omega) (.inr (.inl ⟨by omega, rfl⟩))
    · exact back_main 100 A0 c0 l0 A1 c1 l1 w _ _ hr0 hw0 hr1 (IsB.wf hw1) h0 h1 (by omega) (by omega) (by omega) (.inr (.inr ⟨by omega, by omega, rfl⟩))
end Go.Proofs.Ytaoiamifofkklaa.Pure
