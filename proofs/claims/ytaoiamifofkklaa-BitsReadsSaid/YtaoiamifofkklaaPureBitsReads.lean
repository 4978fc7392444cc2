/- Proved: carillonlaw06.BitsReads returns true: any widths out of any bytes, and the end, are as the document has them. Conditions: none. -/
import Derived.Test.YtaoiamifofkklaaPBitsx1
import Derived.Test.YtaoiamifofkklaaX1Pure
import Derived.Test.YtaoiamifofkklaaXBitsI
import Derived.Test.YtaoiamifofkklaaXBitsK
namespace Go.Proofs.Ytaoiamifofkklaa.Pure
open Go.RowKit Go.Proofs.Ytaoiamifofkklaa.PBits Go.Proofs.YtaoiamifofkklaaW.PrintWords Go.Proofs.YtaoiamifofkklaaW.PrintLast Go.Proofs.YtaoiamifofkklaaW.PrintMore
set_option linter.unusedVariables false
set_option linter.unusedSimpArgs false
open Go.Proofs.Ytaoiamifofkklaa.Obj
theorem empty_lit (W : World) (e : TypeId) : Kd.R (Kd.int .u8) e (W.alloc (.cells #[] e)) W.heap.size (fun _ => True) (.slice (some ⟨W.heap.size, 0, none⟩) 0 0) [] := by
  have h1 := own_lit W W.heap.size e .u8 [] (Nat.le_refl _) (by simp)
  exact Kd.R_of_own (enc := Value.int .u8) (h1 := fun _ => rfl) (ok := fun _ => True) h1 (fun _ _ => trivial)
set_option maxHeartbeats 16000000 in
set_option maxRecDepth 100000 in
theorem reads_main (K : Nat) (A0 : Option Addr) (c0 : Nat) (l : List Int) (A1 : Option Addr) (c1 : Nat) (l1 : List Int) (A2 : Option Addr) (c2 : Nat) (l2 : List Int) (w : World) (m len1 len2 : Nat) (hr0 : Kd.C (Kd.int .u8) w A0 m l) (hc0 : m ≤ c0) (hb0 : IsB l)
    (hr1 : Kd.C (Kd.int .i64) w A1 len1 l1) (hr2 : Kd.C (Kd.int .i64) w A2 len2 l2) (hw2 : ∀ x ∈ l2, (Lit.int .i64 x).wf = true)
    (h0 : m ≤ 140737488351232) (h1 : len1 ≤ 140737488351232) (h2 : len2 ≤ 140737488351232) (hK1 : K ≤ len1) (hK2 : K ≤ len2) (hK3 : K ≤ 200) (hK : (K = len1) ∨ (K < len1 ∧ K = len2) ∨ (K < len1 ∧ K < len2 ∧ K = 200)) :
    Calls Try.prog 9 #[.slice A0 m c0, .slice A1 len1 c1, .slice A2 len2 c2] w fun e w' => e = .returned (.bool true) ∧ Below w.heap.size w w' := by
  have HR0 := Aside0.mk hr0
  have HC0 := Aside0.mk hc0
  have HB0 := Aside0.mk hb0
  have HR1 := Aside0.mk hr1
  have HR2 := Aside0.mk hr2
  have HW2 := Aside0.mk hw2
  have HM := Aside0.mk hr0.1
  have HN1 := Aside0.mk hr1.1
  have HN2 := Aside0.mk hr2.1
  have HK := Aside0.mk hK
  clear hr0 hc0 hb0 hr1 hr2 hw2 hK
  go_enter Try.func9, Try.ntmps9
  go_wp2_with (first
    | ((with_reducible refine gate_dst (N := 20) rfl ?_); (refine x_append .u8 w.heap.size rfl (.tmp 18) (.tmp 19) 36 5 1 rfl Try.underlying36 bt_info (by decide) (.slice (some ⟨w.heap.size, 0, none⟩) 0 0) [] l A0 m c0 rfl rfl (empty_lit w 5) (Kd.C_below HR0.out ((Below.refl _ w).alloc (Nat.le_refl _) _)) ((Below.refl _ w).alloc (Nat.le_refl _) _) (by simp) (by simp; omega) ?_); intro v1 w2 ho1 hb1 hg1 hn1; obtain ⟨A3, c3, rfl, hl3, hC3⟩ := Kd.R_reads ho1; rw [List.nil_append, HM.out] at hC3 ⊢; have HC3 := Aside0.mk hC3; have HB2 := Aside0.mk hb1; clear ho1 hb1 hg1 hn1 hl3 hC3)
    | (go_at_call 37; (with_reducible refine (bt_reader A3 m c3 l _ HC3.out (by omega)).mono ?_); rintro e w3 ⟨B1, v1, rfl, hR, hb⟩; have HRD := Aside0.mk hR; have HB3 := Aside0.mk (HB2.out.trans (hb.mono HB2.out.size)); clear hR hb))
  have hs2 := HB2.out.size
  have hs3' := HB3.out.size
  have hs3 : w.heap.size ≤ w3.heap.size := hs3'
  have hR4 : Rd (w3.alloc (.cells #[.slice A0 m c0, .int .i64 0] 69)) w2.heap.size B1 v1 l 0 := HRD.out.below (below_alloc (Below.refl _ _) _)
  have hF4 : Rr (w3.alloc (.cells #[.slice A0 m c0, .int .i64 0] 69)) w3.heap.size w3.heap.size A0 m c0 0 := ⟨Nat.le_refl _, blk_new _ _⟩
  have hB4 : Below w.heap.size w (w3.alloc (.cells #[.slice A0 m c0, .int .i64 0] 69)) := HB3.out.alloc hs3' _
  have hB1lt := blk_lt HRD.out.2.1
  have hv1 : ∀ k, v1.ownBlock = some k → k < w3.heap.size := by
    obtain ⟨inner, ho⟩ := Kd.R_own HRD.out.2.2
    exact fun k hk => own_lt ho k hk
  have HV := Aside0.mk hv1
  have HR4 := Aside0.mk hR4
  have HF4 := Aside0.mk hF4
  have HB4 := Aside0.mk hB4
  obtain ⟨B2, hB2e⟩ : ∃ B2, B2 = w3.heap.size := ⟨_, rfl⟩
  rw [← hB2e] at HV HF4 hB1lt hs3 ⊢
  have hb12 : w.heap.size ≤ w2.heap.size := hs2
  clear hv1 hR4 hF4 hB4 hs3' HC3 HB2 HRD HB3 hB2e
  go_loopw [9] (fun v9 wr => ∃ k : Nat, k ≤ K ∧ v9 = .int .i64 k ∧ ∃ p : Nat, p ≤ 8 * m ∧ Aside0 (Rd wr w2.heap.size B1 v1 l p) ∧ Aside0 (Rr wr B2 B2 A0 m c0 p) ∧ Aside0 (Below w.heap.size w wr)) (fun v9 _ => K - (intOf v9).toNat)
  case atStart => exact ⟨0, Nat.zero_le _, rfl, 0, Nat.zero_le _, HR4, HF4, HB4⟩
  case round =>
    clear HR4 HF4 HB4
    obtain ⟨k, hk, rfl, p, hp, KR, KF, KB⟩ := hrel
    by_cases hlt : k < K
    · obtain ⟨ad1, rfl, hc1⟩ := (Kd.reads_of_C (enc := Value.int .i64) (d := (0 : Int)) (h1 := fun _ => rfl) (Kd.C_below HR1.out KB.out)).2.2 (by omega)
      obtain ⟨ad2, rfl, hc2⟩ := (Kd.reads_of_C (enc := Value.int .i64) (d := (0 : Int)) (h1 := fun _ => rfl) (Kd.C_below HR2.out KB.out)).2.2 (by omega)
      have x1 := hc1 k (by omega)
      have C1 : Aside0 (∀ W, Below w.heap.size w W → W.cell? (ad1.add k) = some (.int .i64 (l1.getD k 0))) := ⟨fun W hb => by obtain ⟨ad, e, hc⟩ := (Kd.reads_of_C (enc := Value.int .i64) (d := (0 : Int)) (h1 := fun _ => rfl) (Kd.C_below HR1.out hb)).2.2 (by omega); cases e; exact hc k (by omega)⟩
      have C2 : Aside0 (∀ W, Below w.heap.size w W → W.cell? (ad2.add k) = some (.int .i64 (l2.getD k 0))) := ⟨fun W hb => by obtain ⟨ad, e, hc⟩ := (Kd.reads_of_C (enc := Value.int .i64) (d := (0 : Int)) (h1 := fun _ => rfl) (Kd.C_below HR2.out hb)).2.2 (by omega); cases e; exact hc k (by omega)⟩
      obtain ⟨x, hx⟩ : ∃ x, l1.getD k 0 = x := ⟨_, rfl⟩
      obtain ⟨y, hy⟩ : ∃ y, l2.getD k 0 = y := ⟨_, rfl⟩
      have hyb : -9223372036854775808 ≤ y ∧ y ≤ 9223372036854775807 := by
        have hl := HN2.out
        have hm : y ∈ l2 := by rw [← hy, List.getD_eq_getElem?_getD, List.getElem?_eq_getElem (show k < l2.length by omega)]; exact List.getElem_mem _
        exact x_wfi (HW2.out y hm)
      have HYB := Aside0.mk hyb
      rw [hx] at x1 C1
      rw [hy] at C2
      have t1 : (k : Int) < (len1 : Int) := by omega
      have t2 : (k : Int) < (len2 : Int) := by omega
      have t3 : (k : Int) < 200 := by omega
      clear hc1 hc2 hx hy hyb
      have hp1 := getP_le (x := x) hp
      have hp2 := manyP_le (x := y) hp1
      obtain ⟨p1, hp1e⟩ : ∃ p1, getP m p x = p1 := ⟨_, rfl⟩
      rw [hp1e] at hp1 hp2
      obtain ⟨p2, hp2e⟩ : ∃ p2, manyP m p1 y = p2 := ⟨_, rfl⟩
      rw [hp2e] at hp2
      have HP1 := Aside0.mk hp1e
      have HP2 := Aside0.mk hp2e
      clear hp1e hp2e
      go_wp2_with (first
        | (go_at_call 38; refine (bt_getF B1 _ v1 l p x _ KR.out HB0.out (by rw [HM.out]; omega) (by rw [HM.out]; omega)).mono ?_; rintro e w5 ⟨he, hR, hK, hb⟩; rw [HM.out] at he hR; rw [HP1.out] at hR; subst he; have HR5 := Aside0.mk hR; have HF5 := Aside0.mk (KF.out.kept hK (by omega)); have HB5 := Aside0.mk (KB.out.trans (hb.mono hb12)); have y1 := C1.out _ HB5.out; clear hR hK hb x1)
        | (go_at_call 42; refine (rr_getF B2 _ A0 m c0 p l x _ HF5.out (fun W' h => Kd.C_below HR0.out (HB5.out.trans (h.mono hs3))) HB0.out (by omega) hp).mono ?_; rintro e w6 ⟨rfl, hF, hb⟩; rw [HP1.out] at hF; have HF6 := Aside0.mk hF; have HR6 := Aside0.mk (HR5.out.low hb hB1lt HV.out); have HB6 := Aside0.mk (HB5.out.trans (hb.mono hs3)); have y2 := C2.out _ HB6.out; clear hF hb y1)
        | (go_at_call 43; refine (bt_rbytesF B1 _ v1 l p1 y _ HR6.out HB0.out (by rw [HM.out]; omega) (by rw [HM.out]; omega) HYB.out).mono ?_; rintro e w7 ⟨va, he, hX, hR, hK, hb⟩; rw [HM.out] at he hR; rw [HP2.out] at hR; subst he; have HX7 := Aside0.mk hX; have HR7 := Aside0.mk hR; have HF7 := Aside0.mk (HF6.out.kept hK (by omega)); have HB7 := Aside0.mk (HB6.out.trans (hb.mono hb12)); have y3 := C2.out _ HB7.out; clear hX hR hK hb y2)
        | (go_at_call 44; refine (rr_manyF B2 _ A0 m c0 p1 l y _ HF7.out (fun W' h => Kd.C_below HR0.out (HB7.out.trans (h.mono hs3))) HB0.out (by omega) hp1 HYB.out).mono ?_; rintro e w8 ⟨vb, rfl, hX, hF, hK, hb⟩; rw [HP2.out] at hF; have HX8 := Aside0.mk hX; have HF8 := Aside0.mk hF; have HR8 := Aside0.mk (HR7.out.low hb hB1lt HV.out); have HB8 := Aside0.mk (HB7.out.trans (hb.mono hs3)); have HY8 := Aside0.mk (row_keptB HX7.out hK (blk_lt HF6.out.2)); have z1 := s_own8 HY8.out _ (Below.refl _ _); have z2 := s_own8 HX8.out _ (Below.refl _ _); clear hX hF hK hb y3)
        | (go_at_call 45; refine (bt_leftF B1 _ v1 l p2 _ HR8.out (by rw [HM.out]; omega) (by rw [HM.out]; omega)).mono ?_; rintro e w9 ⟨he, ⟨⟨nd9, rfl⟩⟩⟩; rw [HM.out] at he; subst he)
        | (go_at_call 46; refine (rr_left B2 B2 A0 m c0 p2 _ (HF8.out.drewN nd9) (by omega) hp2).mono ?_; rintro e w10 ⟨rfl, ⟨⟨nd10, rfl⟩⟩⟩)
        | (go_at_call 39; refine (bt_endF B1 _ v1 l p2 _ (HR8.out.drewN (nd9 + nd10)) HB0.out (by rw [HM.out]; omega) (by rw [HM.out]; omega)).mono ?_; rintro e w11 ⟨rfl, ⟨⟨nd11, rfl⟩⟩⟩)
        | (go_at_call 47; refine (rr_end B2 B2 A0 m c0 p2 l _ (HF8.out.drewN (nd9 + nd10 + nd11)) (fun W' h => Kd.C_below HR0.out ((pw_below_drewN HB8.out (nd9 + nd10 + nd11)).trans (h.mono hs3))) HB0.out (by omega) hp2).mono ?_; rintro e w12 ⟨rfl, hb⟩; have HR12 := Aside0.mk ((HR8.out.drewN (nd9 + nd10 + nd11)).below hb); have HF12 := Aside0.mk ((HF8.out.drewN (nd9 + nd10 + nd11)).below hb); have HB12 := Aside0.mk (below_step (pw_below_drewN HB8.out (nd9 + nd10 + nd11)) hb); clear hb))
      go_roundw
      case rel => exact ⟨k + 1, by omega, by simp, p2, hp2, HR12, HF12, HB12⟩
      case measure => simp [intOf]; omega
    · have hkK : k = K := by omega
      subst hkK
      rcases HK.out with hk0 | ⟨hk0, hk1⟩ | ⟨hk0, hk1, hk2⟩
      · subst hk0
        clear HK
        go_wp2_with (first
          | (go_at_call 39; refine (bt_endF B1 _ v1 l p _ KR.out HB0.out (by rw [HM.out]; omega) (by rw [HM.out]; omega)).mono ?_; rintro e w11 ⟨rfl, ⟨⟨nd11, rfl⟩⟩⟩)
          | (go_at_call 47; refine (rr_end B2 B2 A0 m c0 p l _ (KF.out.drewN nd11) (fun W' h => Kd.C_below HR0.out ((pw_below_drewN KB.out nd11).trans (h.mono hs3))) HB0.out (by omega) hp).mono ?_; rintro e w12 ⟨rfl, hb⟩; have HB12 := Aside0.mk (below_step (pw_below_drewN KB.out nd11) hb); clear hb)
          | (go_at_call 22; refine (bt_awake _).mono ?_; rintro e w7 ⟨rfl, hb7⟩))
        go_ret
        exact ⟨rfl, below_step HB12.out hb7⟩
      · subst hk1
        clear HK
        go_wp2_with (first
          | (go_at_call 39; refine (bt_endF B1 _ v1 l p _ KR.out HB0.out (by rw [HM.out]; omega) (by rw [HM.out]; omega)).mono ?_; rintro e w11 ⟨rfl, ⟨⟨nd11, rfl⟩⟩⟩)
          | (go_at_call 47; refine (rr_end B2 B2 A0 m c0 p l _ (KF.out.drewN nd11) (fun W' h => Kd.C_below HR0.out ((pw_below_drewN KB.out nd11).trans (h.mono hs3))) HB0.out (by omega) hp).mono ?_; rintro e w12 ⟨rfl, hb⟩; have HB12 := Aside0.mk (below_step (pw_below_drewN KB.out nd11) hb); clear hb)
          | (go_at_call 22; refine (bt_awake _).mono ?_; rintro e w7 ⟨rfl, hb7⟩))
        go_ret
        exact ⟨rfl, below_step HB12.out hb7⟩
      · have hk3 : ¬ (k : Int) < 200 := by omega
        have hk4 : ((k : Nat) : Int) < (len1 : Int) := by omega
        have hk5 : ((k : Nat) : Int) < (len2 : Int) := by omega
        clear HK hk2
        go_wp2_with (first
          | (go_at_call 39; refine (bt_endF B1 _ v1 l p _ KR.out HB0.out (by rw [HM.out]; omega) (by rw [HM.out]; omega)).mono ?_; rintro e w11 ⟨rfl, ⟨⟨nd11, rfl⟩⟩⟩)
          | (go_at_call 47; refine (rr_end B2 B2 A0 m c0 p l _ (KF.out.drewN nd11) (fun W' h => Kd.C_below HR0.out ((pw_below_drewN KB.out nd11).trans (h.mono hs3))) HB0.out (by omega) hp).mono ?_; rintro e w12 ⟨rfl, hb⟩; have HB12 := Aside0.mk (below_step (pw_below_drewN KB.out nd11) hb); clear hb)
          | (go_at_call 22; refine (bt_awake _).mono ?_; rintro e w7 ⟨rfl, hb7⟩))
        go_ret
        exact ⟨rfl, below_step HB12.out hb7⟩
theorem BitsReads : carillonlaw06_BitsReads.Pure := by
  intro A0 c0 l0 A1 c1 l1 A2 c2 l2 w hr0 hc0 hm0 y0 hw0 hr1 hc1 hm1 y1 hw1 hr2 hc2 hm2 y2 hw2
  have h0 : l0.length ≤ 140737488351232 := by omega
  have h1 : l1.length ≤ 140737488351232 := by omega
  have h2 : l2.length ≤ 140737488351232 := by omega
  by_cases hA : l1.length ≤ l2.length ∧ l1.length ≤ 200
  · exact reads_main l1.length A0 c0 l0 A1 c1 l1 A2 c2 l2 w _ _ _ hr0 hc0 (IsB.wf hw0) hr1 hr2 hw2 h0 h1 h2 (by omega) (by omega) (by omega) (.inl rfl)
  · by_cases hB : l2.length ≤ 200
    · exact reads_main l2.length A0 c0 l0 A1 c1 l1 A2 c2 l2 w _ _ _ hr0 hc0 (IsB.wf hw0) hr1 hr2 hw2 h0 h1 h2 (by omega) (by omega) (by omega) (.inr (.inl ⟨by omega, rfl⟩))
    · exact reads_main 200 A0 c0 l0 A1 c1 l1 A2 c2 l2 w _ _ _ hr0 hc0 (IsB.wf hw0) hr1 hr2 hw2 h0 h1 h2 (by omega) (by omega) (by omega) (.inr (.inr ⟨by omega, by omega, rfl⟩))
end Go.Proofs.Ytaoiamifofkklaa.Pure
