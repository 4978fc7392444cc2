/- Proved: carillonlaw02.ShaRoots returns true: the state at first is what the square roots of the first eight primes make, and the rounds' words are what the cube roots of the first 64 make. Conditions: none. -/
import Derived.Test.YtbkchjiiaehhpaaPShaRx3
import Derived.Test.YtbkchjiiaehhpaaX1Pure
import Derived.Test.YtbkchjiiaehhpaaXShaRC
import Derived.Deep.DeepCutAuto
namespace Go.Proofs.Ytbkchjiiaehhpaa.Pure
open Go.RowKit Go.Proofs.Ytbkchjiiaehhpaa.PShaR Go.Proofs.YtbkchjiiaehhpaaW.PrintWords Go.Proofs.YtbkchjiiaehhpaaW.PrintLast Go.Proofs.YtbkchjiiaehhpaaW.PrintMore
set_option linter.unusedVariables false
set_option linter.unusedSimpArgs false
def rr.T4 : Bool × List (List Nat × List Nat) := (true, [([], []), ([0], []), ([0, 1, 1], [0, 1]), ([2, 2], [2]), ([3], [3]), ([3], [3]), ([4, 5, 3], [3, 4, 5]), ([6, 3], [3, 6]), ([3], [3]), ([8, 3], [3, 8]), ([9, 3], [3, 9]), ([7, 10, 3], [3, 7, 10]), ([3, 11], [3, 11]), ([12, 3], [12]), ([13, 13], [13]), ([13, 14], [13, 14]), ([15, 14, 0, 1, 2, 3, 4, 5, 6, 7, 8, 9, 10, 11, 12, 13, 14, 15], [15])])
def rr.B4 : List Nat := [0, 1, 3, 7, 15, 15, 63, 127, 15, 271, 783, 2047, 4095, 8191, 16383, 32767, 65535]
theorem rr.tab4 : rtab .any (opsOf Try.f5 4) = rr.T4 := by kernel_rfl
theorem rr.bits4 : waitsOk rr.T4.2 rr.B4 = true := by kernel_rfl
open Go.Proofs.Ytbkchjiiaehhpaa.Obj
theorem words_is : carillonlaw02_words.f 60 (w8I IV) (w8I IV) = some true := by decide +kernel
theorem kti_at {w : World} {A : Option Addr} (h : Kd.C (Kd.int .u32) w A KTI.length KTI) (i : Nat) (hi : i < 64) : ∃ ad, A = some ad ∧ w.cell? (ad.add i) = some (.int .u32 ((KT.getD i 0).toNat : Int)) := by
  obtain ⟨_, _, hr⟩ := Kd.reads_of_C (enc := Value.int .u32) (d := (0 : Int)) (h1 := fun _ => rfl) h
  obtain ⟨ad, rfl, hc⟩ := hr (by rw [KTI_len]; decide)
  refine ⟨ad, rfl, ?_⟩
  rw [hc i (by rw [KTI_len]; exact hi)]
  have hk : i < KT.length := by simpa [KT] using hi
  unfold KTI
  rw [List.getD_eq_getElem?_getD, List.getD_eq_getElem?_getD, List.getElem?_map, List.getElem?_eq_getElem hk]
  rfl
set_option maxHeartbeats 8000000 in
set_option maxRecDepth 100000 in
theorem ShaRoots : carillonlaw02_ShaRoots.Pure := by
  intro a0 w w0
  have hx := x_wf8 w0
  obtain ⟨i, hi⟩ : ∃ i : Nat, a0 % 64 = (i : Int) := ⟨(a0 % 64).toNat, by omega⟩
  have hi2 : i < 64 := by omega
  have ht : a0.tmod 64 = (i : Int) := by rw [Int.tmod_eq_emod_of_nonneg hx.1]; exact hi
  have I1 : Aside0 ((Try.prog.info? 38).map (·.size) = some 64) := ⟨by kernel_rfl⟩
  have HI := Aside0.mk hi2
  obtain ⟨hx1, hx2⟩ := hx
  clear w0
  go_enter Try.func5, Try.ntmps5
  go_upto_region 4 with (first
    | (go_at_call 21; (with_reducible refine (carillonref02_Rounds.calls 16000 KTI _ rounds_is).mono ?_); rintro e w1 ⟨v1, rfl, hR, hb⟩; have HR1 := Aside0.mk hR; have HB1 := Aside0.mk hb; clear hR hb)
    | (go_at_call 22; (with_reducible refine (rf_table _).mono ?_); rintro e w2 ⟨rfl, hb⟩; have HB2 := Aside0.mk (below_step HB1.out hb); have HR2 := Aside0.mk (Kd.R_below HR1.out hb); clear hb; obtain ⟨R, hR⟩ : ∃ R, row64 KT = R := ⟨_, rfl⟩; have HR := Aside0.mk hR; have HS := Aside0.mk (show R.size = 64 by rw [← hR, row_size KT (by decide)]); have HO := Aside0.mk (show R.all (·.oneCell') = true by rw [← hR]; exact row_one _); rw [hR]; clear hR)
    | ((with_reducible refine gate_store (t := 38) (p := 4) (v := .tmp 7) rfl ?_); refine x_arrStore rfl 38 (.tmp 4) (.tmp 7) rfl w2.heap.size (row64 []) R rfl rfl (heap_alloc_new _ _) (by rw [HS.out]; exact I1.out) (by rw [HS.out, row_size [] (by simp)]) HO.out ?_; intro W3 hh3 hg3; rw [← HR.out] at hh3; have GH := Aside0.mk hh3; have HB3 := Aside0.mk (below_step HB2.out (arr_below hg3)); have HR3 := Aside0.mk (Kd.R_below HR2.out (arr_below hg3)); clear hh3 hg3))
  obtain ⟨A1, c1, rfl, _, hC1⟩ := Kd.R_reads HR3.out
  obtain ⟨ad, rfl, hc1⟩ := kti_at hC1 i hi2
  rw [KTI_len]
  obtain ⟨B, hB⟩ : ∃ B, w2.heap.size = B := ⟨_, rfl⟩
  rw [hB] at GH ⊢
  have C1 : Aside0 (∀ W, Below W3.heap.size W3 W → W.cell? (ad.add i) = some (.int .u32 ((KT.getD i 0).toNat : Int))) := ⟨fun W hb => fl_low hc1 hb⟩
  have C2 : Aside0 (∀ W, Below W3.heap.size W3 W → W.cell? ⟨B, i, none⟩ = some (.int .u32 ((KT.getD i 0).toNat : Int))) := ⟨fun W hb => fl_low (row_at GH.out (by simpa [KT] using hi2)) hb⟩
  have HBW := Aside0.mk (Below.refl W3.heap.size W3)
  clear hC1 hc1 hB
  have j1 : (i : Int) < 64 := by omega
  have j2 : 0 ≤ (i : Int) := by omega
  refine start_ (n := 17) (S := fun w' => w'.cell? (ad.add i) = some (.int .u32 ((KT.getD i 0).toNat : Int)) ∧ w'.cell? ⟨B, i, none⟩ = some (.int .u32 ((KT.getD i 0).toNat : Int))) (ds := []) #[false, false, false, false, false, false, false, false, false, false, false, false, false, false, false, false, false] (by kernel_rfl) rfl rfl ⟨C1.out _ (by repeat (first | exact HBW.out | apply below_drew | apply below_alloc | apply pw_below_drewN)), C2.out _ (by repeat (first | exact HBW.out | apply below_drew | apply below_alloc | apply pw_below_drewN))⟩ (fun hHeld => ?_); refine with_tabW rr.tab4 rr.bits4 (fun HT_ HW_ => ?_)
  refine one_ (i := 0) (N := (some 11)) #[true, false, false, false, false, false, false, false, false, false, false, false, false, false, false, false, false] rfl rfl (one_of HT_.out (by kernel_rfl)) (by decide) (fun K hK => ?_)
  refine goes_ Try.func24 (by kernel_rfl) rfl #[] (by rfl) rfl rfl (by first | rfl | (simp only [List.map_toArray, List.map_cons, List.map_nil]; try rfl)) ?_
  (with_reducible refine (sh_start _).mono ?_)
  rintro e_ w_ ⟨v5, rfl, hR, hb⟩
  have HS5 := Aside0.mk hR
  have HBn := Aside0.mk (below_step (by repeat (first | exact HBW.out | apply below_drew | apply below_alloc | apply pw_below_drewN)) hb)
  clear HBW hR hb
  have HBW := HBn
  clear HBn
  refine ⟨_, rfl, ?_⟩
  refine hK.out _ _ ⟨C1.out _ (by repeat (first | exact HBW.out | apply below_drew | apply below_alloc | apply pw_below_drewN)), C2.out _ (by repeat (first | exact HBW.out | apply below_drew | apply below_alloc | apply pw_below_drewN))⟩ (fun hHeld => ?_)
  clear hK K
  refine norm_ (a' := ?_) ?_ ?_
  rotate_left
  · show Act.put _ (some 11) _ = _
    simp only [Act.put, List.setIfInBounds_toArray, List.set_cons_zero, List.set_cons_succ, i64_w, i32_w]
    rfl
  refine one_ (i := 1) (N := (some 12)) #[true, true, false, false, false, false, false, false, false, false, false, false, false, false, false, false, false] rfl rfl (one_of HT_.out (by kernel_rfl)) (by decide) (fun K hK => ?_)
  refine goes_ Try.func25 (by kernel_rfl) rfl #[] (by rfl) rfl rfl (by first | rfl | (simp only [List.map_toArray, List.map_cons, List.map_nil]; try rfl)) ?_
  (with_reducible refine (carillonref02_Start.calls 300 (w8I IV) _ start_is).mono ?_)
  rintro e_ w_ ⟨v6, rfl, hR, hb⟩
  have HS6 := Aside0.mk hR
  have HBn := Aside0.mk (below_step (by repeat (first | exact HBW.out | apply below_drew | apply below_alloc | apply pw_below_drewN)) hb)
  have HS7 := Aside0.mk (Kd.R_below (Kd.R_below HS5.out (by repeat (first | exact Below.refl _ _ | apply below_drew | apply pw_below_drewN))) hb)
  clear HBW hR hb
  have HBW := HBn
  clear HBn
  obtain ⟨A5, c5, rfl, hl5, hC5⟩ := Kd.R_reads HS7.out
  obtain ⟨A6, c6, rfl, hl6, hC6⟩ := Kd.R_reads HS6.out
  have C5 := Aside0.mk hC5
  have C6 := Aside0.mk hC6
  have L5 := Aside0.mk hl5
  have L6 := Aside0.mk hl6
  clear hC5 hC6 hl5 hl6
  refine ⟨_, rfl, ?_⟩
  refine hK.out _ _ ⟨C1.out _ (by repeat (first | exact HBW.out | apply below_drew | apply below_alloc | apply pw_below_drewN)), C2.out _ (by repeat (first | exact HBW.out | apply below_drew | apply below_alloc | apply pw_below_drewN))⟩ (fun hHeld => ?_)
  clear hK K
  refine norm_ (a' := ?_) ?_ ?_
  rotate_left
  · show Act.put _ (some 12) _ = _
    simp only [Act.put, List.setIfInBounds_toArray, List.set_cons_zero, List.set_cons_succ, i64_w, i32_w]
    rfl
  refine one_ (i := 2) (N := (some 13)) #[true, true, true, false, false, false, false, false, false, false, false, false, false, false, false, false, false] rfl rfl (one_of HT_.out (by kernel_rfl)) (by decide) (fun K hK => ?_)
  refine goes_ Try.func23 (by kernel_rfl) rfl #[.slice A5 (w8I IV).length c5, .slice A6 (w8I IV).length c6] (by rfl) rfl rfl (by first | rfl | (simp only [List.map_toArray, List.map_cons, List.map_nil]; try rfl)) ?_
  (with_reducible refine (carillonlaw02_words.calls 60 A5 c5 (w8I IV) A6 c6 (w8I IV) true _ (Kd.C_below C5.out (by repeat (first | exact Below.refl _ _ | apply below_drew | apply pw_below_drewN))) L5.out (Kd.C_below C6.out (by repeat (first | exact Below.refl _ _ | apply below_drew | apply pw_below_drewN))) L6.out words_is).mono ?_)
  rintro e_ w_ ⟨rfl, hd⟩
  have HBn := Aside0.mk (below_step (by repeat (first | exact HBW.out | apply below_drew | apply below_alloc | apply pw_below_drewN)) hd.below)
  clear HBW hd
  have HBW := HBn
  clear HBn
  refine ⟨_, rfl, ?_⟩
  refine hK.out _ _ ⟨C1.out _ (by repeat (first | exact HBW.out | apply below_drew | apply below_alloc | apply pw_below_drewN)), C2.out _ (by repeat (first | exact HBW.out | apply below_drew | apply below_alloc | apply pw_below_drewN))⟩ (fun hHeld => ?_)
  clear hK K
  refine norm_ (a' := ?_) ?_ ?_
  rotate_left
  · show Act.put _ (some 13) _ = _
    simp only [Act.put, List.setIfInBounds_toArray, List.set_cons_zero, List.set_cons_succ, i64_w, i32_w]
    rfl
  refine take_ (i := 3) (N := (some 14)) (v := ?_) (a' := ?_) #[true, true, true, true, false, false, false, false, false, false, false, false, false, false, false, false, false] rfl rfl (take_ofW HT_.out HW_.out (by kernel_rfl)) (fun _ _ _ h => h) (Or.inl ⟨by rfl, ?_⟩) hHeld ?_ ?_
  rotate_left
  · rintro w' ⟨s0_, s1_⟩
    go_simp
    with_reducible rfl
  rotate_left
  · simp only [Act.put, List.setIfInBounds_toArray, List.set_cons_zero, List.set_cons_succ, i64_w, i32_w]
    rfl
  refine take_ (i := 4) (N := (some 15)) (v := ?_) (a' := ?_) #[true, true, true, true, true, false, false, false, false, false, false, false, false, false, false, false, false] rfl rfl (take_ofW HT_.out HW_.out (by kernel_rfl)) (fun _ _ _ h => h) (Or.inl ⟨by rfl, ?_⟩) hHeld ?_ ?_
  rotate_left
  · rintro w' ⟨s0_, s1_⟩
    go_simp
    with_reducible rfl
  rotate_left
  · simp only [Act.put, List.setIfInBounds_toArray, List.set_cons_zero, List.set_cons_succ, i64_w, i32_w]
    rfl
  refine take_ (i := 5) (N := (some 16)) (v := ?_) (a' := ?_) #[true, true, true, true, true, true, false, false, false, false, false, false, false, false, false, false, false] rfl rfl (take_ofW HT_.out HW_.out (by kernel_rfl)) (fun _ _ _ h => h) (Or.inl ⟨by rfl, ?_⟩) hHeld ?_ ?_
  rotate_left
  · rintro w' ⟨s0_, s1_⟩
    go_simp
    with_reducible rfl
  rotate_left
  · simp only [Act.put, List.setIfInBounds_toArray, List.set_cons_zero, List.set_cons_succ, i64_w, i32_w]
    rfl
  refine take_ (i := 6) (N := (some 17)) (v := ?_) (a' := ?_) #[true, true, true, true, true, true, true, false, false, false, false, false, false, false, false, false, false] rfl rfl (take_ofW HT_.out HW_.out (by kernel_rfl)) (fun _ _ _ h => h) (Or.inl ⟨by rfl, ?_⟩) hHeld ?_ ?_
  rotate_left
  · rintro w' ⟨s0_, s1_⟩
    go_simp
    with_reducible rfl
  rotate_left
  · simp only [Act.put, List.setIfInBounds_toArray, List.set_cons_zero, List.set_cons_succ, i64_w, i32_w]
    rfl
  refine take_ (i := 7) (N := (some 18)) (v := ?_) (a' := ?_) #[true, true, true, true, true, true, true, true, false, false, false, false, false, false, false, false, false] rfl rfl (take_ofW HT_.out HW_.out (by kernel_rfl)) (fun _ _ _ h => h) (Or.inl ⟨by rfl, ?_⟩) hHeld ?_ ?_
  rotate_left
  · rintro w' ⟨s0_, s1_⟩
    go_simp
    with_reducible rfl
  rotate_left
  · simp only [Act.put, List.setIfInBounds_toArray, List.set_cons_zero, List.set_cons_succ, i64_w, i32_w]
    rfl
  refine take_ (i := 8) (N := (some 19)) (v := ?_) (a' := ?_) #[true, true, true, true, true, true, true, true, true, false, false, false, false, false, false, false, false] rfl rfl (take_ofW HT_.out HW_.out (by kernel_rfl)) (fun _ _ _ h => h) (Or.inl ⟨by rfl, ?_⟩) hHeld ?_ ?_
  rotate_left
  · rintro w' ⟨s0_, s1_⟩
    go_simp
    with_reducible rfl
  rotate_left
  · simp only [Act.put, List.setIfInBounds_toArray, List.set_cons_zero, List.set_cons_succ, i64_w, i32_w]
    rfl
  refine take_ (i := 9) (N := (some 20)) (v := ?_) (a' := ?_) #[true, true, true, true, true, true, true, true, true, true, false, false, false, false, false, false, false] rfl rfl (take_ofW HT_.out HW_.out (by kernel_rfl)) (fun _ _ _ h => h) (Or.inl ⟨by rfl, ?_⟩) hHeld ?_ ?_
  rotate_left
  · rintro w' ⟨s0_, s1_⟩
    go_simp
    with_reducible rfl
  rotate_left
  · simp only [Act.put, List.setIfInBounds_toArray, List.set_cons_zero, List.set_cons_succ, i64_w, i32_w]
    rfl
  refine take_ (i := 10) (N := (some 21)) (v := ?_) (a' := ?_) #[true, true, true, true, true, true, true, true, true, true, true, false, false, false, false, false, false] rfl rfl (take_ofW HT_.out HW_.out (by kernel_rfl)) (fun _ _ _ h => h) (Or.inl ⟨by rfl, ?_⟩) hHeld ?_ ?_
  rotate_left
  · rintro w' ⟨s0_, s1_⟩
    go_simp
    with_reducible rfl
  rotate_left
  · simp only [Act.put, List.setIfInBounds_toArray, List.set_cons_zero, List.set_cons_succ, i64_w, i32_w]
    rfl
  refine take_ (i := 11) (N := (some 22)) (v := ?_) (a' := ?_) #[true, true, true, true, true, true, true, true, true, true, true, true, false, false, false, false, false] rfl rfl (take_ofW HT_.out HW_.out (by kernel_rfl)) (fun _ _ _ h => h) (Or.inl ⟨by rfl, ?_⟩) hHeld ?_ ?_
  rotate_left
  · rintro w' ⟨s0_, s1_⟩
    go_simp
    with_reducible rfl
  rotate_left
  · simp only [Act.put, List.setIfInBounds_toArray, List.set_cons_zero, List.set_cons_succ, i64_w, i32_w]
    rfl
  refine take_ (i := 12) (N := (some 23)) (v := ?_) (a' := ?_) #[true, true, true, true, true, true, true, true, true, true, true, true, true, false, false, false, false] rfl rfl (take_ofW HT_.out HW_.out (by kernel_rfl)) (fun _ _ _ h => h) (Or.inl ⟨by rfl, ?_⟩) hHeld ?_ ?_
  rotate_left
  · rintro w' ⟨s0_, s1_⟩
    go_simp
    with_reducible rfl
  rotate_left
  · simp only [Act.put, List.setIfInBounds_toArray, List.set_cons_zero, List.set_cons_succ, i64_w, i32_w]
    rfl
  refine take_ (i := 13) (N := (some 24)) (v := ?_) (a' := ?_) #[true, true, true, true, true, true, true, true, true, true, true, true, true, true, false, false, false] rfl rfl (take_ofW HT_.out HW_.out (by kernel_rfl)) (fun _ _ _ h => h) (Or.inl ⟨by rfl, ?_⟩) hHeld ?_ ?_
  rotate_left
  · rintro w' ⟨s0_, s1_⟩
    go_simp
    with_reducible rfl
  rotate_left
  · simp only [Act.put, List.setIfInBounds_toArray, List.set_cons_zero, List.set_cons_succ, i64_w, i32_w]
    rfl
  refine one_ (i := 14) (N := (some 25)) #[true, true, true, true, true, true, true, true, true, true, true, true, true, true, true, false, false] rfl rfl (one_of HT_.out (by kernel_rfl)) (by decide) (fun K hK => ?_)
  refine goes_ Try.func15 (by kernel_rfl) rfl #[] (by rfl) rfl rfl (by first | rfl | (simp only [List.map_toArray, List.map_cons, List.map_nil]; try rfl)) ?_
  (with_reducible refine (sh_awake _).mono ?_)
  rintro e_ w_ ⟨rfl, hb⟩
  have HBn := Aside0.mk (below_step (by repeat (first | exact HBW.out | apply below_drew | apply below_alloc | apply pw_below_drewN)) hb)
  clear HBW hb
  have HBW := HBn
  clear HBn
  refine ⟨_, rfl, ?_⟩
  refine hK.out _ _ ⟨C1.out _ (by repeat (first | exact HBW.out | apply below_drew | apply below_alloc | apply pw_below_drewN)), C2.out _ (by repeat (first | exact HBW.out | apply below_drew | apply below_alloc | apply pw_below_drewN))⟩ (fun hHeld => ?_)
  clear hK K
  refine norm_ (a' := ?_) ?_ ?_
  rotate_left
  · show Act.put _ (some 25) _ = _
    simp only [Act.put, List.setIfInBounds_toArray, List.set_cons_zero, List.set_cons_succ, i64_w, i32_w]
    rfl
  refine take_ (i := 15) (N := (some 26)) (v := ?_) (a' := ?_) #[true, true, true, true, true, true, true, true, true, true, true, true, true, true, true, true, false] rfl rfl (take_ofW HT_.out HW_.out (by kernel_rfl)) (fun _ _ _ h => h) (Or.inl ⟨by rfl, ?_⟩) hHeld ?_ ?_
  rotate_left
  · rintro w' ⟨s0_, s1_⟩
    go_simp
    with_reducible rfl
  rotate_left
  · simp only [Act.put, List.setIfInBounds_toArray, List.set_cons_zero, List.set_cons_succ, i64_w, i32_w]
    rfl
  refine take_ (i := 16) (N := (some 2)) (v := ?_) (a' := ?_) #[true, true, true, true, true, true, true, true, true, true, true, true, true, true, true, true, true] rfl rfl (take_ofW HT_.out HW_.out (by kernel_rfl)) (fun _ _ _ h => h) (Or.inl ⟨by rfl, ?_⟩) hHeld ?_ ?_
  rotate_left
  · rintro w' ⟨s0_, s1_⟩
    go_simp
    with_reducible rfl
  rotate_left
  · simp only [Act.put, List.setIfInBounds_toArray, List.set_cons_zero, List.set_cons_succ, i64_w, i32_w]
    rfl
  refine done_ (done_of HT_.out (by kernel_rfl)) ?_
  have hend := below_step HB3.out (by repeat (first | exact HBW.out | apply below_drew | apply below_alloc | apply pw_below_drewN))
  have HE := Aside0.mk hend
  clear hend
  go_wp2
  go_ret
  exact ⟨rfl, HE.out⟩
end Go.Proofs.Ytbkchjiiaehhpaa.Pure
