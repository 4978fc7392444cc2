/- Proved: carillonlaw11.FlashApart returns true: what is written on a copy is not on the other one. Conditions: none. -/
import Derived.Test.YtaoiamifofkklaaPFlashx1
import Derived.Test.YtaoiamifofkklaaX1Pure
import Derived.Test.YtaoiamifofkklaaXFlashB
namespace Go.Proofs.Ytaoiamifofkklaa.Pure
open Go.RowKit Go.Proofs.Ytaoiamifofkklaa.PFlash Go.Proofs.YtaoiamifofkklaaW.PrintWords Go.Proofs.YtaoiamifofkklaaW.PrintLast Go.Proofs.YtaoiamifofkklaaW.PrintMore
set_option linter.unusedVariables false
set_option linter.unusedSimpArgs false
open Go.Proofs.Ytaoiamifofkklaa.Obj
/-- is some byte among the first i another one than 255? -/
def chg (l : List Int) (i : Nat) : Bool := decide (∃ x ∈ l.take i, x ≠ 255)
theorem chg_succ (l : List Int) (i : Nat) (hi : i < l.length) : chg l (i + 1) = (chg l i || (l.getD i 0 != 255)) := by
  unfold chg
  rw [List.take_succ_eq_append_getElem hi, Bool.eq_iff_iff, Bool.or_eq_true, decide_eq_true_eq, decide_eq_true_eq, bne_iff_ne, List.getD_eq_getElem?_getD, List.getElem?_eq_getElem hi]
  constructor
  · rintro ⟨x, hx, h⟩
    rcases List.mem_append.1 hx with hx | hx
    · exact .inl ⟨x, hx, h⟩
    · rw [List.mem_singleton] at hx; subst hx; exact .inr h
  · rintro (⟨x, hx, h⟩ | h)
    · exact ⟨x, List.mem_append.2 (.inl hx), h⟩
    · exact ⟨_, List.mem_append.2 (.inr (by simp)), h⟩
theorem wr_same (l : List Int) (a : Nat) (h : a + l.length ≤ 50) : decide (List.replicate 50 255 = wrB (List.replicate 50 255) a l) = !chg l l.length := by
  have e : wrB (List.replicate 50 255) a l = List.replicate a 255 ++ (l ++ List.replicate (50 - (a + l.length)) 255) := by
    unfold wrB; rw [List.take_replicate, List.drop_replicate, Nat.min_eq_left (by omega)]
  have e2 : (List.replicate 50 255 : List Int) = List.replicate a 255 ++ (List.replicate l.length 255 ++ List.replicate (50 - (a + l.length)) 255) := by
    rw [List.replicate_append_replicate, List.replicate_append_replicate]; congr 1; omega
  rw [e, e2]
  unfold chg
  rw [List.take_of_length_le (Nat.le_refl _), Bool.eq_iff_iff, decide_eq_true_eq, Bool.not_eq_true', decide_eq_false_iff_not, List.append_cancel_left_eq, List.append_cancel_right_eq]
  constructor
  · intro h
    rw [← h]
    rintro ⟨x, hx, hne⟩
    exact hne (List.eq_of_mem_replicate hx)
  · intro h
    exact (List.eq_replicate_iff.2 ⟨rfl, fun x hx => by
      by_cases e : x = 255
      · exact e
      · exact (h ⟨x, hx, e⟩).elim⟩).symm
theorem rep_b (n : Nat) : IsB (List.replicate n 255) := fun x hx => by rw [List.eq_of_mem_replicate hx]; decide
theorem wr_b {b l : List Int} (h : IsB b) (h' : IsB l) (a : Nat) : IsB (wrB b a l) := IsB.append (IsB.take h _) (IsB.append h' (IsB.drop h _))
set_option maxHeartbeats 8000000 in
set_option maxRecDepth 100000 in
theorem FlashApart : carillonlaw11_FlashApart.Pure := by
  intro A0 c0 l a1 w hr0 hc0 hm y0 hw0 w1
  have hb := IsB.wf hw0
  obtain ⟨m, hn⟩ : ∃ n, l.length = n := ⟨_, rfl⟩
  have hlim : m ≤ 140737488351232 := by omega
  have hp := x_wfi w1
  rw [hn] at hr0 hc0 ⊢
  have HR0 := Aside0.mk hr0
  have HC0 := Aside0.mk hc0
  have HB0 := Aside0.mk hb
  have HN := Aside0.mk hn
  clear hr0 hc0 hm y0 hw0 hb hn w1
  by_cases hz : 0 ≤ a1 ∧ a1 + m ≤ 50
  · obtain ⟨ha, ham⟩ := hz
    obtain ⟨a, rfl⟩ : ∃ a : Nat, a1 = (a : Int) := ⟨a1.toNat, by omega⟩
    have hws := wr_same l a (by rw [HN.out]; omega)
    rw [HN.out] at hws
    have HWS := Aside0.mk hws
    have hwl : (wrB (List.replicate 50 255) a l).length = 50 := by rw [wrB_len (by rw [HN.out, List.length_replicate]; omega), List.length_replicate]
    have HWL := Aside0.mk hwl
    clear hws hwl
    go_enter Try.func4, Try.ntmps4
    go_wp2_with (first
      | (go_at_call 23; refine (fl_new 50 _ (by omega)).mono ?_; rintro e w1 ⟨B1, v1, rfl, hF, hb⟩; have HF1 := Aside0.mk hF; have HB1 := Aside0.mk hb; clear hF hb)
      | (go_at_call 24; refine (fl_copy B1 _ v1 _ _ _ _ _ _ _ HF1.out (by simp)).mono ?_; rintro e w2 ⟨B2, v2, rfl, hF, hb⟩; have HF2 := Aside0.mk hF; have HB2 := Aside0.mk hb; clear hF hb)
      | (go_at_call 25; refine (fl_write_ok B2 _ v2 _ _ _ _ _ a A0 m c0 l _ HF2.out (by simp) (by omega) (by omega) (fl_arg HR0.out (below_step HB1.out HB2.out) HF2.out HB1.out.size) (by simp; omega) rfl).mono ?_; rintro e w3 ⟨rfl, hF, _, hb⟩; have HF3 := Aside0.mk hF; have HF13 := Aside0.mk (HF1.out.below (HB2.out.trans hb)); have HB3 := Aside0.mk (HB2.out.trans hb); clear hF hb)
      | (go_at_call 26; (with_reducible refine (fl_read_i B1 _ v1 _ _ _ _ _ 0 50 0 50 _ rfl rfl HF13.out (by simp) (by omega) (by simp)).mono ?_); rintro e w4 ⟨g4, q4, rfl, HR4, HB4⟩)
      | (go_at_call 26; (with_reducible refine (fl_read_i B2 _ v2 _ _ _ _ _ 0 50 0 50 _ rfl rfl (HF3.out.below HB4.out) (by rw [HWL.out]; omega) (by omega) (by rw [HWL.out]; omega)).mono ?_); rintro e w5 ⟨g5, q5, rfl, HR5, HB5⟩))
    have ex : ((List.replicate 50 (255 : Int)).drop 0).take 50 = List.replicate 50 255 := by simp
    have ey : ((wrB (List.replicate 50 255) a l).drop 0).take 50 = wrB (List.replicate 50 255) a l := by rw [List.drop_zero]; exact List.take_of_length_le (by rw [HWL.out]; exact Nat.le_refl _)
    rw [ex] at HR4
    rw [ey] at HR5
    have HX := Aside0.mk (Kd.R_below HR4.out HB5.out)
    have hs1 := own_string (P := Try.prog) Try.underlying36 Try.underlying5 Try.underlying9 (Kd.own_of_R HX.out)
    have hs2 := own_string (P := Try.prog) Try.underlying36 Try.underlying5 Try.underlying9 (Kd.own_of_R HR5.out)
    have hseq := str_beq (rep_b 50) (wr_b (rep_b 50) HB0.out a)
    rw [HWS.out] at hseq
    obtain ⟨s1, e1⟩ : ∃ s, strOfNums (List.replicate 50 255) = s := ⟨_, rfl⟩
    obtain ⟨s2, e2⟩ : ∃ s, strOfNums (wrB (List.replicate 50 255) a l) = s := ⟨_, rfl⟩
    rw [e1] at hs1 hseq
    rw [e2] at hs2 hseq
    have HA := Aside0.mk (Kd.C_below HR0.out (below_step (HB1.out) (below_step HB3.out (below_step HB4.out HB5.out))))
    obtain ⟨sm, hsm⟩ : ∃ s, (!chg l m) = s := ⟨_, rfl⟩
    rw [hsm] at hseq
    have HSM := Aside0.mk hsm
    clear ex ey e1 e2 hsm HR4 HR5
    go_simp
    go_wp2_with fail
    have c0 : chg l 0 = false := by unfold chg; simp
    go_loop [14] (fun v14 => ∃ k : Nat, k ≤ 50 ∧ v14 = .int .i64 k) (fun v14 => 50 - (intOf v14).toNat)
    case atStart => exact ⟨0, by omega, rfl⟩
    case round =>
      obtain ⟨k, hk, rfl⟩ := hrel
      by_cases hlt : k < 50
      · obtain ⟨hx, _⟩ := Kd.R_celln (0 : Int) HX.out (k : Int) (by omega) (by omega)
        have ex : rdOf 0 (List.replicate 50 (255 : Int)) (k : Int) = 255 := by
          show (List.replicate 50 (255 : Int)).getD (k : Int).toNat 0 = _
          rw [Int.toNat_natCast, List.getD_eq_getElem?_getD, List.getElem?_replicate, if_pos hlt]; rfl
        rw [ex, Int.toNat_natCast] at hx
        clear ex c0
        go_wp2
        go_round
        case rel => exact ⟨k + 1, by omega, by simp⟩
        case measure => simp [intOf]; omega
      · obtain rfl : k = 50 := by omega
        go_wp2
        go_loop [15, 16] (fun v15 v16 => ∃ k : Nat, k ≤ m ∧ v16 = .int .i64 k ∧ v15 = .bool (chg l k)) (fun _ v16 => m - (intOf v16).toNat)
        case atStart => exact ⟨0, by omega, rfl, by rw [c0]⟩
        case round =>
          obtain ⟨k, hk, rfl, rfl⟩ := hrel
          clear c0
          by_cases hlt : k < m
          · obtain ⟨ad, rfl, hcell⟩ := (Kd.reads_of_C (enc := Value.int .u8) (d := (0 : Int)) (h1 := fun _ => rfl) HA.out).2.2 (by omega)
            have hx := hcell k (by omega)
            have hs := chg_succ l k (by rw [HN.out]; exact hlt)
            obtain ⟨y, hy⟩ : ∃ y, l.getD k 0 = y := ⟨_, rfl⟩
            rw [hy] at hx hs
            obtain ⟨cc, hcc⟩ : ∃ c, chg l k = c := ⟨_, rfl⟩
            rw [hcc] at hs ⊢
            have HS := Aside0.mk hs
            clear hy hcc hs hcell
            cases cc
            · go_wp2
              go_round
              case rel => exact ⟨k + 1, by omega, by simp, by rw [HS.out]; simp⟩
              case measure => simp [intOf]; omega
            · go_wp2
              go_round
              case rel => exact ⟨k + 1, by omega, by simp, by rw [HS.out]; simp⟩
              case measure => simp [intOf]; omega
          · obtain rfl : k = m := by omega
            have hs := HSM.out
            obtain ⟨cc, hcc⟩ : ∃ c, chg l k = c := ⟨_, rfl⟩
            rw [hcc] at hs ⊢
            subst hs
            clear hcc
            cases cc
            · go_wp2_with (go_at_call 27; refine (fl_awake _).mono ?_; rintro e w6 ⟨rfl, hb6⟩)
              go_ret
              exact ⟨rfl, below_step HB1.out (below_step HB3.out (below_step HB4.out (below_step HB5.out hb6)))⟩
            · go_wp2_with (go_at_call 27; refine (fl_awake _).mono ?_; rintro e w6 ⟨rfl, hb6⟩)
              go_ret
              exact ⟨rfl, below_step HB1.out (below_step HB3.out (below_step HB4.out (below_step HB5.out hb6)))⟩
  · have hmay : mayV false (List.replicate 50 (255 : Int)).length a1 m = 1 := by
      unfold mayV
      rw [if_neg (by decide), if_pos (by rw [List.length_replicate]; omega)]
    have HMAY := Aside0.mk hmay
    clear hmay hz
    go_enter Try.func4, Try.ntmps4
    go_wp2_with (first
      | (go_at_call 23; refine (fl_new 50 _ (by omega)).mono ?_; rintro e w1 ⟨B1, v1, rfl, hF, hb⟩; have HF1 := Aside0.mk hF; have HB1 := Aside0.mk hb; clear hF hb)
      | (go_at_call 24; refine (fl_copy B1 _ v1 _ _ _ _ _ _ _ HF1.out (by simp)).mono ?_; rintro e w2 ⟨B2, v2, rfl, hF, hb⟩; have HF2 := Aside0.mk hF; have HB2 := Aside0.mk hb; clear hF hb)
      | (go_at_call 25; refine (fl_write_no B2 _ v2 _ _ _ _ _ _ a1 A0 m c0 _ HF2.out (by simp) (by rw [HMAY.out]; decide)).mono ?_; rintro e w3 ⟨he, rfl⟩; rw [HMAY.out] at he; subst he; have HF13 := Aside0.mk (HF1.out.below HB2.out))
      | (go_at_call 26; (with_reducible refine (fl_read_i B1 _ v1 _ _ _ _ _ 0 50 0 50 _ rfl rfl HF13.out (by simp) (by omega) (by simp)).mono ?_); rintro e w4 ⟨g4, q4, rfl, HR4, HB4⟩)
      | (go_at_call 26; (with_reducible refine (fl_read_i B2 _ v2 _ _ _ _ _ 0 50 0 50 _ rfl rfl (HF2.out.below HB4.out) (by simp) (by omega) (by simp)).mono ?_); rintro e w5 ⟨g5, q5, rfl, HR5, HB5⟩))
    have ex : ((List.replicate 50 (255 : Int)).drop 0).take 50 = List.replicate 50 255 := by simp
    rw [ex] at HR4
    have HX := Aside0.mk (Kd.R_below HR4.out HB5.out)
    have HA := Aside0.mk (Kd.C_below HR0.out (below_step (HB1.out) (below_step HB2.out (below_step HB4.out HB5.out))))
    clear ex HR4 HR5
    have c0 : chg l 0 = false := by unfold chg; simp
    go_loop [14] (fun v14 => ∃ k : Nat, k ≤ 50 ∧ v14 = .int .i64 k) (fun v14 => 50 - (intOf v14).toNat)
    case atStart => exact ⟨0, by omega, rfl⟩
    case round =>
      obtain ⟨k, hk, rfl⟩ := hrel
      by_cases hlt : k < 50
      · obtain ⟨hx, _⟩ := Kd.R_celln (0 : Int) HX.out (k : Int) (by omega) (by omega)
        have ex : rdOf 0 (List.replicate 50 (255 : Int)) (k : Int) = 255 := by
          show (List.replicate 50 (255 : Int)).getD (k : Int).toNat 0 = _
          rw [Int.toNat_natCast, List.getD_eq_getElem?_getD, List.getElem?_replicate, if_pos hlt]; rfl
        rw [ex, Int.toNat_natCast] at hx
        clear ex c0
        go_wp2
        go_round
        case rel => exact ⟨k + 1, by omega, by simp⟩
        case measure => simp [intOf]; omega
      · obtain rfl : k = 50 := by omega
        go_wp2
        go_loop [15, 16] (fun v15 v16 => ∃ k : Nat, k ≤ m ∧ v16 = .int .i64 k ∧ v15 = .bool (chg l k)) (fun _ v16 => m - (intOf v16).toNat)
        case atStart => exact ⟨0, by omega, rfl, by rw [c0]⟩
        case round =>
          obtain ⟨k, hk, rfl, rfl⟩ := hrel
          clear c0
          by_cases hlt : k < m
          · obtain ⟨ad, rfl, hcell⟩ := (Kd.reads_of_C (enc := Value.int .u8) (d := (0 : Int)) (h1 := fun _ => rfl) HA.out).2.2 (by omega)
            have hx := hcell k (by omega)
            have hs := chg_succ l k (by rw [HN.out]; exact hlt)
            obtain ⟨y, hy⟩ : ∃ y, l.getD k 0 = y := ⟨_, rfl⟩
            rw [hy] at hx hs
            obtain ⟨cc, hcc⟩ : ∃ c, chg l k = c := ⟨_, rfl⟩
            rw [hcc] at hs ⊢
            have HS := Aside0.mk hs
            clear hy hcc hs hcell
            cases cc
            · go_wp2
              go_round
              case rel => exact ⟨k + 1, by omega, by simp, by rw [HS.out]; simp⟩
              case measure => simp [intOf]; omega
            · go_wp2
              go_round
              case rel => exact ⟨k + 1, by omega, by simp, by rw [HS.out]; simp⟩
              case measure => simp [intOf]; omega
          · obtain rfl : k = m := by omega
            go_wp2_with (go_at_call 27; refine (fl_awake _).mono ?_; rintro e w6 ⟨rfl, hb6⟩)
            go_ret
            exact ⟨rfl, below_step HB1.out (below_step HB2.out (below_step HB4.out (below_step HB5.out hb6)))⟩
end Go.Proofs.Ytaoiamifofkklaa.Pure
