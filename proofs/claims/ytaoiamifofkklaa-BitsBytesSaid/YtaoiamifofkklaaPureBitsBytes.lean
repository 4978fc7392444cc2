/- Proved: carillonlaw06.BitsBytes returns true: bytes that are put are their numbers of eight bits, and bytes that are got likewise. Conditions: none. -/
import Derived.Test.YtaoiamifofkklaaPBitsx1
import Derived.Test.YtaoiamifofkklaaX1Pure
import Derived.Test.YtaoiamifofkklaaXBitsI
namespace Go.Proofs.Ytaoiamifofkklaa.Pure
open Go.RowKit Go.Proofs.Ytaoiamifofkklaa.PBits Go.Proofs.YtaoiamifofkklaaW.PrintWords Go.Proofs.YtaoiamifofkklaaW.PrintLast Go.Proofs.YtaoiamifofkklaaW.PrintMore
set_option linter.unusedVariables false
set_option linter.unusedSimpArgs false
def by.T18 : Bool × List (List Nat × List Nat) := (true, [([], []), ([0], [0]), ([1], [1]), ([], []), ([3, 1], [3]), ([4], [4]), ([2, 5], [2, 5]), ([6, 4], [6]), ([7], [7]), ([8, 7, 7], [7, 8]), ([7], [7]), ([7], [7]), ([11, 7], [7, 11]), ([12, 7], [7, 12]), ([10, 13, 7], [7, 10, 13]), ([9, 14, 7], [7, 9, 14]), ([7, 15], [7, 15]), ([16, 9], [16]), ([17], [17]), ([18, 17], [17, 18]), ([17, 19], [17, 19]), ([20, 17], [20]), ([21], [21]), ([22, 21], [21, 22]), ([21], [21]), ([24, 21], [21, 24]), ([23, 25, 21], [21, 23, 25]), ([21, 26], [21, 26]), ([27, 21], [27]), ([28, 28], [28]), ([28, 29], [28, 29]), ([30, 29, 0, 1, 2, 3, 4, 5, 6, 7, 8, 9, 10, 11, 12, 13, 14, 15, 16, 17, 18, 19, 20, 21, 22, 23, 24, 25, 26, 27, 28, 29, 30], [30])])
def by.B18 : List Nat := [0, 1, 3, 0, 11, 27, 63, 127, 255, 511, 255, 255, 2303, 6399, 15615, 32767, 65535, 131071, 262143, 524287, 1048575, 2097151, 4194303, 8388607, 4194303, 20971519, 67108863, 134217727, 268435455, 536870911, 1073741823, 2147483647]
theorem by.tab18 : rtab .any (opsOf Try.f11 18) = by.T18 := by kernel_rfl
theorem by.bits18 : waitsOk by.T18.2 by.B18 = true := by kernel_rfl
open Go.Proofs.Ytaoiamifofkklaa.Obj
theorem two_fst {w : World} {b1 B1 b2 B2 : Nat} {v1 v2 : Value} {L1 L2 : List Bool} (h : Two w b1 B1 v1 L1 b2 B2 v2 L2) : WrL w b1 B1 v1 L1 := h.1
theorem two_snd {w : World} {b1 B1 b2 B2 : Nat} {v1 v2 : Value} {L1 L2 : List Bool} (h : Two w b1 B1 v1 L1 b2 B2 v2 L2) : WrL w b2 B2 v2 L2 := h.2.1
theorem bt_len_is (B base : Nat) (v : Value) (l : List Bool) (w : World) (h : WrL w base B v l) (x : Int) (hx : (l.length : Int) = x) : Calls Try.prog 19 #[.pointer (some ⟨B, 0, none⟩)] w fun e w' => e = .returned (.int .i64 x) ∧ w' = w := by
  subst hx
  exact bt_len B base v l w h
set_option maxHeartbeats 8000000 in
set_option maxRecDepth 100000 in
theorem BitsBytes : carillonlaw06_BitsBytes.Pure := by
  intro A0 c0 l a1 w hr0 hc0 hm0 y0 hw0 w1
  have hb := IsB.wf hw0
  obtain ⟨m, hn⟩ : ∃ n, l.length = n := ⟨_, rfl⟩
  have hlim : m ≤ 140737488351232 := by omega
  have hp := x_wf8 w1
  rw [hn] at hr0 hc0 ⊢
  obtain ⟨p, rfl⟩ : ∃ a : Nat, a1 = (a : Int) := ⟨a1.toNat, by omega⟩
  have HR0 := Aside0.mk hr0
  have HC0 := Aside0.mk hc0
  have HB0 := Aside0.mk hb
  have HN := Aside0.mk hn
  clear hr0 hc0 hm0 y0 hw0 hb hn w1
  by_cases hbig : 900 < m
  · have h2 : decide ((m : Int) > 900) = true := decide_eq_true (by omega)
    go_enter Try.func11, Try.ntmps11
    go_wp2_with (first
      | (go_at_call 14; refine (bt_new _).mono ?_; rintro e w2 ⟨B2, rfl, _, hb, _⟩; (first | (have HBB := Aside0.mk (below_step HBA.out hb)) | (have HBA := Aside0.mk hb)); clear hb)
      | (go_at_call 22; refine (bt_awake _).mono ?_; rintro e w6 ⟨rfl, hb6⟩))
    go_ret
    exact ⟨rfl, below_step HBB.out hb6⟩
  · have hm9 : m ≤ 900 := by omega
    have h2 : decide ((m : Int) > 900) = false := decide_eq_false (by omega)
    obtain ⟨k, hk, hk9⟩ : ∃ k : Nat, (p : Int) % 9 = (k : Int) ∧ k ≤ 8 := ⟨p % 9, by omega, by omega⟩
    have HZ0 := Aside0.mk (bitsOf_len 0 k)
    obtain ⟨Z, hZ⟩ : ∃ Z, bitsOf 0 k = Z := ⟨_, rfl⟩
    rw [hZ] at HZ0
    have HZ := Aside0.mk hZ
    clear hbig hZ
    go_enter Try.func11, Try.ntmps11
    go_wp2_with (first
      | (go_at_call 14; refine (bt_new _).mono ?_; rintro e w2 ⟨B, rfl, hW, hb, hlo, hhi⟩; (first | (have HW12 := Aside0.mk (show Two w2 w.heap.size B1 _ _ wA.heap.size B _ _ from ⟨HW1.out.below hb, hW, by omega, fun k hk => by simp [Value.ownBlock] at hk⟩); have HBB := Aside0.mk (below_step HBA.out hb); have hsA := HBA.out.size) | (obtain ⟨B1, rfl⟩ : ∃ B1, B1 = B := ⟨_, rfl⟩; obtain ⟨wA, rfl⟩ : ∃ wA, wA = w2 := ⟨_, rfl⟩; have HW1 := Aside0.mk hW; have HBA := Aside0.mk hb)); clear hW hb)
      | (go_at_call 15; (with_reducible refine (bt_put_i B1 _ _ [] 0 _ 0 k _ rfl rfl (two_fst HW12.out) (by omega) (by decide) (fun _ => by simp) (by simp; omega)).mono ?_); rintro e w3 ⟨v1, rfl, hW, hM, hb⟩; rw [List.nil_append, HZ.out] at hW; have HW13 := Aside0.mk (HW12.out.step1 hW hM); have HB3 := Aside0.mk (HBB.out.trans hb); clear hW hM hb)
      | (go_at_call 15; (with_reducible refine (bt_put_i B _ _ [] 0 _ 0 k _ rfl rfl (two_snd HW13.out) (by omega) (by decide) (fun _ => by simp) (by simp; omega)).mono ?_); rintro e w4 ⟨v2, rfl, hW, hM, hb⟩; rw [List.nil_append, HZ.out] at hW; have HW14 := Aside0.mk (HW13.out.step2 hW hM); have HB4 := Aside0.mk (HB3.out.trans (hb.mono hsA)); clear hW hM hb)
      | (go_at_call 17; refine (bt_bytes B1 _ v1 Z A0 m c0 l _ (two_fst HW14.out) (wr_arg HR0.out HB4.out (two_fst HW14.out) (Nat.le_refl _)) HB0.out (by omega) (by rw [HZ0.out]; omega)).mono ?_; rintro e w5 ⟨v1', rfl, hW, hM, hb⟩; have HW15 := Aside0.mk (HW14.out.step1 hW hM); have HB5 := Aside0.mk (HB4.out.trans hb); clear hW hM hb))
    go_loopw [8] (fun v8 wr => ∃ i : Nat, i ≤ m ∧ v8 = .int .i64 i ∧ ∃ v2, Aside0 (Two wr w.heap.size B1 v1' (Z ++ bytesBits l) wA.heap.size B v2 (Z ++ bytesBits (l.take i))) ∧ Aside0 (Below w.heap.size w wr)) (fun v8 _ => m - (intOf v8).toNat)
    case atStart => exact ⟨0, Nat.zero_le _, rfl, v2, ⟨by have q := HW15.out; simpa [bytesBits] using q⟩, HB5⟩
    case round =>
      obtain ⟨i, hi, rfl, v2', KW, KB⟩ := hrel
      clear HW15 HB5 HW14 HW13 HW12 HB4 HB3
      by_cases hlt : i < m
      · obtain ⟨ad, rfl, hc⟩ := (Kd.reads_of_C (enc := Value.int .u8) (d := (0 : Int)) (h1 := fun _ => rfl) (Kd.C_below HR0.out KB.out)).2.2 (by omega)
        have hx := hc i hlt
        have hyb : 0 ≤ l.getD i 0 ∧ l.getD i 0 < 256 := by
          have hl' := HN.out
          have := HB0.out.get (i := i) (by omega)
          rw [List.getD_eq_getElem?_getD, List.getElem?_eq_getElem (show i < l.length by omega)]
          exact this
        have ht := bytesBits_take l i (by rw [HN.out]; exact hlt)
        have htl : (bytesBits (l.take i)).length = 8 * i := by rw [bytesBits_len, List.length_take, HN.out, Nat.min_eq_left hi]
        obtain ⟨y, hy⟩ : ∃ y, l.getD i 0 = y := ⟨_, rfl⟩
        rw [hy] at hx hyb ht
        obtain ⟨y, rfl⟩ : ∃ q : Nat, y = (q : Int) := ⟨y.toNat, by omega⟩
        rw [Int.toNat_natCast] at ht
        have HT := Aside0.mk ht
        have HTL := Aside0.mk htl
        have HY8 := Aside0.mk (Nat.div_eq_of_lt (show y < 2 ^ 8 by omega))
        clear hc hy ht htl
        go_wp2_with (go_at_call 15; refine (bt_put_i B _ v2' (Z ++ bytesBits (l.take i)) _ _ y 8 _ (by first | rfl | (rw [x_wrap_u64']; omega)) rfl (two_snd KW.out) (by decide) (by omega) (fun _ => HY8.out) (by rw [List.length_append, HZ0.out, HTL.out]; omega)).mono ?_; rintro e w6 ⟨v3, rfl, hW, hM, hb⟩; rw [List.append_assoc, ← HT.out] at hW; have HW6 := Aside0.mk (KW.out.step2 hW hM); have HB6 := Aside0.mk (KB.out.trans (hb.mono hsA)); clear hW hM hb)
        go_roundw
        case rel => exact ⟨i + 1, by omega, by simp, v3, HW6, HB6⟩
        case measure => simp [intOf]; omega
      · obtain rfl : i = m := by omega
        clear hlt
        rw [List.take_of_length_le (by rw [HN.out]; exact Nat.le_refl _)] at KW
        obtain ⟨L, hL⟩ : ∃ L, Z ++ bytesBits l = L := ⟨_, rfl⟩
        have hLl : L.length = k + 8 * i := by rw [← hL, List.length_append, HZ0.out, bytesBits_len, HN.out]
        have hthere := bytes_there Z l HB0.out
        rw [hL, HZ0.out, HN.out] at hthere
        rw [hL] at KW
        have HLL := Aside0.mk hLl
        have HTH := Aside0.mk hthere
        have HPL := Aside0.mk (pack_len L)
        have HPB : Aside0 (IsB (pack L)) := ⟨pack_b _⟩
        clear hL hLl hthere
        go_wp2_with (first
          | (go_at_call 20; refine (bt_done B1 _ v1' L _ (two_fst KW.out) (by rw [HLL.out]; omega)).mono ?_; rintro e w7 ⟨v7, rfl, hR, hb⟩; obtain ⟨A3, c3, rfl, hl3, hC3⟩ := Kd.R_reads hR; have HC3 := Aside0.mk hC3; have HW7 := Aside0.mk (KW.out.below hb); have HB7 := Aside0.mk (below_step KB.out hb); clear hR hb hl3 hC3)
          | (go_at_call 37; refine (bt_reader A3 (pack L).length c3 (pack L) _ HC3.out (by rw [HPL.out, HLL.out]; omega)).mono ?_; rintro e w8 ⟨B8, v8, rfl, hR, hb⟩; have HR8 := Aside0.mk hR; have hs7 := HB7.out.size; have HW8 := Aside0.mk (HW7.out.below hb); have HB8 := Aside0.mk (below_step HB7.out hb); have HBx := Aside0.mk hb; clear hR hb)
          | (go_at_call 38; refine (bt_get B8 _ v8 (pack L) 0 k _ HR8.out HPB.out (by rw [HPL.out, HLL.out]; omega) (by rw [HPL.out, HLL.out]; omega) (by omega)).mono ?_; rintro e w9 ⟨rfl, hR, _, hb⟩; rw [Nat.zero_add] at hR; have HR9 := Aside0.mk hR; have HW9 := Aside0.mk (HW7.out.below (HBx.out.trans hb)); have HB9 := Aside0.mk (HB8.out.trans (hb.mono hs7)); have HBy := Aside0.mk (HBx.out.trans hb); clear hR hb)
          | (go_at_call 43; refine (bt_rbytes B8 _ v8 (pack L) k i _ HR9.out HPB.out (by rw [HPL.out, HLL.out]; omega) (by rw [HPL.out, HLL.out]; omega) (by omega)).mono ?_; rintro e wx ⟨vx, rfl, hX, _, _, hb⟩; rw [HTH.out] at hX; have HX := Aside0.mk hX; have HWx := Aside0.mk (HW7.out.below (HBy.out.trans hb)); have HBz := Aside0.mk (HB9.out.trans (hb.mono hs7)); clear hX hb))
        have hC0 := Kd.C_below HR0.out HBz.out
        have S1 := s_own8 HX.out
        have S2 := s_run8 c0 hC0
        obtain ⟨sl, z1⟩ : ∃ s, strOfNums l = s := ⟨_, rfl⟩
        obtain ⟨sp, z2⟩ : ∃ s, strOfNums (pack L) = s := ⟨_, rfl⟩
        rw [z1] at S1 S2
        have HS1 := Aside0.mk S1
        have HS2 := Aside0.mk S2
        have HSP := Aside0.mk z2
        have HB := Aside0.mk (Below.refl wx.heap.size wx)
        have HLE : Aside0 (L.length ≤ 100000) := ⟨by rw [HLL.out]; omega⟩
        have HL9 : Aside0 ((L.length : Int) = (k : Int) + 8 * (i : Int)) := ⟨by rw [HLL.out]; omega⟩
        have hw8 : wrap64 (8 * (i : Int)) = 8 * (i : Int) := x_w64 (by omega) (by omega)
        have hwk : wrap64 ((k : Int) + 8 * (i : Int)) = (k : Int) + 8 * (i : Int) := x_w64 (by omega) (by omega)
        clear S1 S2 z1 z2 hC0 h2 hk
        refine start_ (n := 32) (S := fun w' => (convert 36 9 vx).run Try.prog w' = .ok (.string sl) w' ∧ (convert 36 9 (.slice A0 i c0)).run Try.prog w' = .ok (.string sl) w') (ds := []) #[false, false, false, false, false, false, false, false, false, false, false, false, false, false, false, false, false, false, false, false, false, false, false, false, false, false, false, false, false, false, false, false] (by kernel_rfl) rfl rfl ⟨HS1.out _ (by repeat (first | exact HB.out | apply below_drew | apply below_alloc | apply pw_below_drewN)), HS2.out _ (by repeat (first | exact HB.out | apply below_drew | apply below_alloc | apply pw_below_drewN))⟩ (fun hHeld => ?_); refine with_tabW by.tab18 by.bits18 (fun HT_ HW_ => ?_)
        refine take_ (i := 0) (N := (some 74)) (v := ?_) (a' := ?_) #[true, false, false, false, false, false, false, false, false, false, false, false, false, false, false, false, false, false, false, false, false, false, false, false, false, false, false, false, false, false, false, false] rfl rfl (take_ofW HT_.out HW_.out (by kernel_rfl)) (fun _ _ _ h => h) (Or.inl ⟨by rfl, ?_⟩) hHeld ?_ ?_
        rotate_left
        · rintro w' ⟨s0_, s1_⟩
          go_simp
          with_reducible rfl
        rotate_left
        · simp only [Act.put, List.setIfInBounds_toArray, List.set_cons_zero, List.set_cons_succ, i64_w, i32_w]
          rfl
        refine take_ (i := 3) (N := (some 77)) (v := ?_) (a' := ?_) #[true, false, false, true, false, false, false, false, false, false, false, false, false, false, false, false, false, false, false, false, false, false, false, false, false, false, false, false, false, false, false, false] rfl rfl (take_ofW HT_.out HW_.out (by kernel_rfl)) (fun _ _ _ h => h) (Or.inl ⟨by rfl, ?_⟩) hHeld ?_ ?_
        rotate_left
        · rintro w' ⟨s0_, s1_⟩
          go_simp
          with_reducible rfl
        rotate_left
        · simp only [Act.put, List.setIfInBounds_toArray, List.set_cons_zero, List.set_cons_succ, i64_w, i32_w]
          rfl
        refine one_ (i := 1) (N := (some 75)) #[true, true, false, true, false, false, false, false, false, false, false, false, false, false, false, false, false, false, false, false, false, false, false, false, false, false, false, false, false, false, false, false] rfl rfl (one_of HT_.out (by kernel_rfl)) (by decide) (fun K hK => ?_)
        refine goes_ Try.func20 (by kernel_rfl) rfl #[.pointer (some ⟨B1, 0, none⟩)] (by rfl) rfl rfl (by first | rfl | (simp only [List.map_toArray, List.map_cons, List.map_nil]; try rfl)) ?_
        (with_reducible refine (bt_done B1 _ v1' L _ (two_fst (HWx.out.below (by repeat (first | exact HB.out | apply below_drew | apply below_alloc | apply pw_below_drewN)))) HLE.out).mono ?_)
        rintro e_ w_ ⟨vd, rfl, hR, hb⟩
        have HD1 := Aside0.mk (s_own8 hR)
        have HD := Aside0.mk (Below.refl w_.heap.size w_)
        clear hR
        (try (have m_ := Aside0.mk (below_step (by repeat (first | exact HB.out | apply below_drew | apply below_alloc | apply pw_below_drewN)) hb); clear HB; have HB := m_; clear m_))
        clear hb
        refine ⟨_, rfl, ?_⟩
        refine hK.out _ _ ⟨HS1.out _ (by repeat (first | exact HB.out | apply below_drew | apply below_alloc | apply pw_below_drewN)), HS2.out _ (by repeat (first | exact HB.out | apply below_drew | apply below_alloc | apply pw_below_drewN))⟩ (fun hHeld => ?_)
        clear hK K
        refine norm_ (a' := ?_) ?_ ?_
        rotate_left
        · show Act.put _ (some 75) _ = _
          simp only [Act.put, List.setIfInBounds_toArray, List.set_cons_zero, List.set_cons_succ, i64_w, i32_w]
          rfl
        refine join_ (σ := Value) 26 #[true, true, true, true, true, true, false, false, false, false, false, false, false, false, false, false, false, false, false, false, false, false, false, false, false, false, false, false, false, false, false, false] (fun v_ => [(76, .string sp), (78, v_), (79, .string sp)]) (fun _ w' => ((convert 36 9 vx).run Try.prog w' = .ok (.string sl) w' ∧ (convert 36 9 (.slice A0 i c0)).run Try.prog w' = .ok (.string sl) w') ∧ Below wx.heap.size wx w') ?_ ?_
        · rintro v_ w_ ⟨hHeld, hbJ⟩
          clear HB
          have HB := Aside0.mk hbJ
          clear hbJ
          refine norm_ (a' := ?_) ?_ ?_
          rotate_left
          · simp only [putAll, Act.put, List.setIfInBounds_toArray, List.set_cons_zero, List.set_cons_succ]
            rfl
          refine take_ (i := 6) (N := (some 80)) (v := ?_) (a' := ?_) #[true, true, true, true, true, true, true, false, false, false, false, false, false, false, false, false, false, false, false, false, false, false, false, false, false, false, false, false, false, false, false, false] rfl rfl (take_ofW HT_.out HW_.out (by kernel_rfl)) (fun _ _ _ h => h) (Or.inl ⟨by rfl, ?_⟩) hHeld ?_ ?_
          rotate_left
          · rintro w' ⟨s0_, s1_⟩
            go_simp
            with_reducible rfl
          rotate_left
          · simp only [Act.put, List.setIfInBounds_toArray, List.set_cons_zero, List.set_cons_succ, i64_w, i32_w]
            rfl
          refine take_ (i := 7) (N := (some 81)) (v := ?_) (a' := ?_) #[true, true, true, true, true, true, true, true, false, false, false, false, false, false, false, false, false, false, false, false, false, false, false, false, false, false, false, false, false, false, false, false] rfl rfl (take_ofW HT_.out HW_.out (by kernel_rfl)) (fun _ _ _ h => h) (Or.inl ⟨by rfl, ?_⟩) hHeld ?_ ?_
          rotate_left
          · rintro w' ⟨s0_, s1_⟩
            go_simp
            with_reducible rfl
          rotate_left
          · simp only [Act.put, List.setIfInBounds_toArray, List.set_cons_zero, List.set_cons_succ, i64_w, i32_w]
            rfl
          refine take_ (i := 8) (N := (some 82)) (v := ?_) (a' := ?_) #[true, true, true, true, true, true, true, true, true, false, false, false, false, false, false, false, false, false, false, false, false, false, false, false, false, false, false, false, false, false, false, false] rfl rfl (take_ofW HT_.out HW_.out (by kernel_rfl)) (fun _ _ _ h => h) (Or.inl ⟨by rfl, ?_⟩) hHeld ?_ ?_
          rotate_left
          · rintro w' ⟨s0_, s1_⟩
            go_simp
            with_reducible rfl
          rotate_left
          · simp only [Act.put, List.setIfInBounds_toArray, List.set_cons_zero, List.set_cons_succ, i64_w, i32_w]
            rfl
          refine take_ (i := 10) (N := (some 84)) (v := ?_) (a' := ?_) #[true, true, true, true, true, true, true, true, true, false, true, false, false, false, false, false, false, false, false, false, false, false, false, false, false, false, false, false, false, false, false, false] rfl rfl (take_ofW HT_.out HW_.out (by kernel_rfl)) (fun _ _ _ h => h) (Or.inl ⟨by rfl, ?_⟩) hHeld ?_ ?_
          rotate_left
          · rintro w' ⟨s0_, s1_⟩
            go_simp
            with_reducible rfl
          rotate_left
          · simp only [Act.put, List.setIfInBounds_toArray, List.set_cons_zero, List.set_cons_succ, i64_w, i32_w]
            rfl
          refine take_ (i := 11) (N := (some 85)) (v := ?_) (a' := ?_) #[true, true, true, true, true, true, true, true, true, false, true, true, false, false, false, false, false, false, false, false, false, false, false, false, false, false, false, false, false, false, false, false] rfl rfl (take_ofW HT_.out HW_.out (by kernel_rfl)) (fun _ _ _ h => h) (Or.inl ⟨by rfl, ?_⟩) hHeld ?_ ?_
          rotate_left
          · rintro w' ⟨s0_, s1_⟩
            go_simp
            with_reducible rfl
          rotate_left
          · simp only [Act.put, List.setIfInBounds_toArray, List.set_cons_zero, List.set_cons_succ, i64_w, i32_w]
            rfl
          refine take_ (i := 12) (N := (some 86)) (v := ?_) (a' := ?_) #[true, true, true, true, true, true, true, true, true, false, true, true, true, false, false, false, false, false, false, false, false, false, false, false, false, false, false, false, false, false, false, false] rfl rfl (take_ofW HT_.out HW_.out (by kernel_rfl)) (fun _ _ _ h => h) (Or.inl ⟨by rfl, ?_⟩) hHeld ?_ ?_
          rotate_left
          · rintro w' ⟨s0_, s1_⟩
            go_simp
            with_reducible rfl
          rotate_left
          · simp only [Act.put, List.setIfInBounds_toArray, List.set_cons_zero, List.set_cons_succ, i64_w, i32_w]
            rfl
          refine take_ (i := 13) (N := (some 87)) (v := ?_) (a' := ?_) #[true, true, true, true, true, true, true, true, true, false, true, true, true, true, false, false, false, false, false, false, false, false, false, false, false, false, false, false, false, false, false, false] rfl rfl (take_ofW HT_.out HW_.out (by kernel_rfl)) (fun _ _ _ h => h) (Or.inl ⟨by rfl, ?_⟩) hHeld ?_ ?_
          rotate_left
          · rintro w' ⟨s0_, s1_⟩
            go_simp
            with_reducible rfl
          rotate_left
          · simp only [Act.put, List.setIfInBounds_toArray, List.set_cons_zero, List.set_cons_succ, i64_w, i32_w]
            rfl
          refine take_ (i := 14) (N := (some 88)) (v := ?_) (a' := ?_) #[true, true, true, true, true, true, true, true, true, false, true, true, true, true, true, false, false, false, false, false, false, false, false, false, false, false, false, false, false, false, false, false] rfl rfl (take_ofW HT_.out HW_.out (by kernel_rfl)) (fun _ _ _ h => h) (Or.inl ⟨by rfl, ?_⟩) hHeld ?_ ?_
          rotate_left
          · rintro w' ⟨s0_, s1_⟩
            go_simp
            with_reducible rfl
          rotate_left
          · simp only [Act.put, List.setIfInBounds_toArray, List.set_cons_zero, List.set_cons_succ, i64_w, i32_w]
            rfl
          refine one_ (i := 9) (N := (some 83)) #[true, true, true, true, true, true, true, true, true, true, true, true, true, true, true, false, false, false, false, false, false, false, false, false, false, false, false, false, false, false, false, false] rfl rfl (one_of HT_.out (by kernel_rfl)) (by decide) (fun K hK => ?_)
          refine goes_ Try.func19 (by kernel_rfl) rfl #[.pointer (some ⟨B1, 0, none⟩)] (by rfl) rfl rfl (by first | rfl | (simp only [List.map_toArray, List.map_cons, List.map_nil]; try rfl)) ?_
          (with_reducible refine (bt_len_is B1 _ v1' L _ (two_fst (HWx.out.below (by repeat (first | exact HB.out | apply below_drew | apply below_alloc | apply pw_below_drewN)))) ((k : Int) + 8 * (i : Int)) HL9.out).mono ?_)
          rintro e_ w_ ⟨rfl, rfl⟩
          refine ⟨_, rfl, ?_⟩
          refine hK.out _ _ ⟨HS1.out _ (by repeat (first | exact HB.out | apply below_drew | apply below_alloc | apply pw_below_drewN)), HS2.out _ (by repeat (first | exact HB.out | apply below_drew | apply below_alloc | apply pw_below_drewN))⟩ (fun hHeld => ?_)
          clear hK K
          refine norm_ (a' := ?_) ?_ ?_
          rotate_left
          · show Act.put _ (some 83) _ = _
            simp only [Act.put, List.setIfInBounds_toArray, List.set_cons_zero, List.set_cons_succ, i64_w, i32_w]
            rfl
          refine take_ (i := 15) (N := (some 89)) (v := ?_) (a' := ?_) #[true, true, true, true, true, true, true, true, true, true, true, true, true, true, true, true, false, false, false, false, false, false, false, false, false, false, false, false, false, false, false, false] rfl rfl (take_ofW HT_.out HW_.out (by kernel_rfl)) (fun _ _ _ h => h) (Or.inl ⟨by rfl, ?_⟩) hHeld ?_ ?_
          rotate_left
          · rintro w' ⟨s0_, s1_⟩
            go_simp
            with_reducible rfl
          rotate_left
          · simp only [Act.put, List.setIfInBounds_toArray, List.set_cons_zero, List.set_cons_succ, i64_w, i32_w]
            rfl
          refine take_ (i := 16) (N := (some 90)) (v := ?_) (a' := ?_) #[true, true, true, true, true, true, true, true, true, true, true, true, true, true, true, true, true, false, false, false, false, false, false, false, false, false, false, false, false, false, false, false] rfl rfl (take_ofW HT_.out HW_.out (by kernel_rfl)) (fun _ _ _ h => h) (Or.inl ⟨by rfl, ?_⟩) hHeld ?_ ?_
          rotate_left
          · rintro w' ⟨s0_, s1_⟩
            go_simp
            with_reducible rfl
          rotate_left
          · simp only [Act.put, List.setIfInBounds_toArray, List.set_cons_zero, List.set_cons_succ, i64_w, i32_w]
            rfl
          refine take_ (i := 17) (N := (some 91)) (v := ?_) (a' := ?_) #[true, true, true, true, true, true, true, true, true, true, true, true, true, true, true, true, true, true, false, false, false, false, false, false, false, false, false, false, false, false, false, false] rfl rfl (take_ofW HT_.out HW_.out (by kernel_rfl)) (fun _ _ _ h => h) (Or.inl ⟨by rfl, ?_⟩) hHeld ?_ ?_
          rotate_left
          · rintro w' ⟨s0_, s1_⟩
            go_simp
            with_reducible rfl
          rotate_left
          · simp only [Act.put, List.setIfInBounds_toArray, List.set_cons_zero, List.set_cons_succ, i64_w, i32_w]
            rfl
          refine take_ (i := 18) (N := (some 92)) (v := ?_) (a' := ?_) #[true, true, true, true, true, true, true, true, true, true, true, true, true, true, true, true, true, true, true, false, false, false, false, false, false, false, false, false, false, false, false, false] rfl rfl (take_ofW HT_.out HW_.out (by kernel_rfl)) (fun _ _ _ h => h) (Or.inl ⟨by rfl, ?_⟩) hHeld ?_ ?_
          rotate_left
          · rintro w' ⟨s0_, s1_⟩
            go_simp
            with_reducible rfl
          rotate_left
          · simp only [Act.put, List.setIfInBounds_toArray, List.set_cons_zero, List.set_cons_succ, i64_w, i32_w]
            rfl
          refine take_ (i := 19) (N := (some 93)) (v := ?_) (a' := ?_) #[true, true, true, true, true, true, true, true, true, true, true, true, true, true, true, true, true, true, true, true, false, false, false, false, false, false, false, false, false, false, false, false] rfl rfl (take_ofW HT_.out HW_.out (by kernel_rfl)) (fun _ _ _ h => h) (Or.inl ⟨by rfl, ?_⟩) hHeld ?_ ?_
          rotate_left
          · rintro w' ⟨s0_, s1_⟩
            go_simp
            with_reducible rfl
          rotate_left
          · simp only [Act.put, List.setIfInBounds_toArray, List.set_cons_zero, List.set_cons_succ, i64_w, i32_w]
            rfl
          refine take_ (i := 20) (N := (some 94)) (v := ?_) (a' := ?_) #[true, true, true, true, true, true, true, true, true, true, true, true, true, true, true, true, true, true, true, true, true, false, false, false, false, false, false, false, false, false, false, false] rfl rfl (take_ofW HT_.out HW_.out (by kernel_rfl)) (fun _ _ _ h => h) (Or.inl ⟨by rfl, ?_⟩) hHeld ?_ ?_
          rotate_left
          · rintro w' ⟨s0_, s1_⟩
            go_simp
            with_reducible rfl
          rotate_left
          · simp only [Act.put, List.setIfInBounds_toArray, List.set_cons_zero, List.set_cons_succ, i64_w, i32_w]
            rfl
          refine take_ (i := 21) (N := (some 95)) (v := ?_) (a' := ?_) #[true, true, true, true, true, true, true, true, true, true, true, true, true, true, true, true, true, true, true, true, true, true, false, false, false, false, false, false, false, false, false, false] rfl rfl (take_ofW HT_.out HW_.out (by kernel_rfl)) (fun _ _ _ h => h) (Or.inl ⟨by rfl, ?_⟩) hHeld ?_ ?_
          rotate_left
          · rintro w' ⟨s0_, s1_⟩
            go_simp
            with_reducible rfl
          rotate_left
          · simp only [Act.put, List.setIfInBounds_toArray, List.set_cons_zero, List.set_cons_succ, i64_w, i32_w]
            rfl
          refine take_ (i := 22) (N := (some 96)) (v := ?_) (a' := ?_) #[true, true, true, true, true, true, true, true, true, true, true, true, true, true, true, true, true, true, true, true, true, true, true, false, false, false, false, false, false, false, false, false] rfl rfl (take_ofW HT_.out HW_.out (by kernel_rfl)) (fun _ _ _ h => h) (Or.inl ⟨by rfl, ?_⟩) hHeld ?_ ?_
          rotate_left
          · rintro w' ⟨s0_, s1_⟩
            go_simp
            with_reducible rfl
          rotate_left
          · simp only [Act.put, List.setIfInBounds_toArray, List.set_cons_zero, List.set_cons_succ, i64_w, i32_w]
            rfl
          refine take_ (i := 23) (N := (some 97)) (v := ?_) (a' := ?_) #[true, true, true, true, true, true, true, true, true, true, true, true, true, true, true, true, true, true, true, true, true, true, true, true, false, false, false, false, false, false, false, false] rfl rfl (take_ofW HT_.out HW_.out (by kernel_rfl)) (fun _ _ _ h => h) (Or.inl ⟨by rfl, ?_⟩) hHeld ?_ ?_
          rotate_left
          · rintro w' ⟨s0_, s1_⟩
            go_simp
            with_reducible rfl
          rotate_left
          · simp only [Act.put, List.setIfInBounds_toArray, List.set_cons_zero, List.set_cons_succ, i64_w, i32_w]
            rfl
          refine take_ (i := 24) (N := (some 98)) (v := ?_) (a' := ?_) #[true, true, true, true, true, true, true, true, true, true, true, true, true, true, true, true, true, true, true, true, true, true, true, true, true, false, false, false, false, false, false, false] rfl rfl (take_ofW HT_.out HW_.out (by kernel_rfl)) (fun _ _ _ h => h) (Or.inl ⟨by rfl, ?_⟩) hHeld ?_ ?_
          rotate_left
          · rintro w' ⟨s0_, s1_⟩
            go_simp
            with_reducible rfl
          rotate_left
          · simp only [Act.put, List.setIfInBounds_toArray, List.set_cons_zero, List.set_cons_succ, i64_w, i32_w]
            rfl
          refine take_ (i := 25) (N := (some 99)) (v := ?_) (a' := ?_) #[true, true, true, true, true, true, true, true, true, true, true, true, true, true, true, true, true, true, true, true, true, true, true, true, true, true, false, false, false, false, false, false] rfl rfl (take_ofW HT_.out HW_.out (by kernel_rfl)) (fun _ _ _ h => h) (Or.inl ⟨by rfl, ?_⟩) hHeld ?_ ?_
          rotate_left
          · rintro w' ⟨s0_, s1_⟩
            go_simp
            with_reducible rfl
          rotate_left
          · simp only [Act.put, List.setIfInBounds_toArray, List.set_cons_zero, List.set_cons_succ, i64_w, i32_w]
            rfl
          refine take_ (i := 26) (N := (some 100)) (v := ?_) (a' := ?_) #[true, true, true, true, true, true, true, true, true, true, true, true, true, true, true, true, true, true, true, true, true, true, true, true, true, true, true, false, false, false, false, false] rfl rfl (take_ofW HT_.out HW_.out (by kernel_rfl)) (fun _ _ _ h => h) (Or.inl ⟨by rfl, ?_⟩) hHeld ?_ ?_
          rotate_left
          · rintro w' ⟨s0_, s1_⟩
            go_simp
            with_reducible rfl
          rotate_left
          · simp only [Act.put, List.setIfInBounds_toArray, List.set_cons_zero, List.set_cons_succ, i64_w, i32_w]
            rfl
          refine take_ (i := 27) (N := (some 101)) (v := ?_) (a' := ?_) #[true, true, true, true, true, true, true, true, true, true, true, true, true, true, true, true, true, true, true, true, true, true, true, true, true, true, true, true, false, false, false, false] rfl rfl (take_ofW HT_.out HW_.out (by kernel_rfl)) (fun _ _ _ h => h) (Or.inl ⟨by rfl, ?_⟩) hHeld ?_ ?_
          rotate_left
          · rintro w' ⟨s0_, s1_⟩
            go_simp
            with_reducible rfl
          rotate_left
          · simp only [Act.put, List.setIfInBounds_toArray, List.set_cons_zero, List.set_cons_succ, i64_w, i32_w]
            rfl
          refine take_ (i := 28) (N := (some 102)) (v := ?_) (a' := ?_) #[true, true, true, true, true, true, true, true, true, true, true, true, true, true, true, true, true, true, true, true, true, true, true, true, true, true, true, true, true, false, false, false] rfl rfl (take_ofW HT_.out HW_.out (by kernel_rfl)) (fun _ _ _ h => h) (Or.inl ⟨by rfl, ?_⟩) hHeld ?_ ?_
          rotate_left
          · rintro w' ⟨s0_, s1_⟩
            go_simp
            with_reducible rfl
          rotate_left
          · simp only [Act.put, List.setIfInBounds_toArray, List.set_cons_zero, List.set_cons_succ, i64_w, i32_w]
            rfl
          refine one_ (i := 29) (N := (some 103)) #[true, true, true, true, true, true, true, true, true, true, true, true, true, true, true, true, true, true, true, true, true, true, true, true, true, true, true, true, true, true, false, false] rfl rfl (one_of HT_.out (by kernel_rfl)) (by decide) (fun K hK => ?_)
          refine goes_ Try.func22 (by kernel_rfl) rfl #[] (by rfl) rfl rfl (by first | rfl | (simp only [List.map_toArray, List.map_cons, List.map_nil]; try rfl)) ?_
          (with_reducible refine (bt_awake _).mono ?_)
          rintro e_ w_ ⟨rfl, hb⟩
          (try (have m_ := Aside0.mk (below_step (by repeat (first | exact HD.out | apply below_drew | apply below_alloc | apply pw_below_drewN)) hb); clear HD; have HD := m_; clear m_))
          (try (have m_ := Aside0.mk (below_step (by repeat (first | exact HE.out | apply below_drew | apply below_alloc | apply pw_below_drewN)) hb); clear HE; have HE := m_; clear m_))
          (try (have m_ := Aside0.mk (below_step (by repeat (first | exact HB.out | apply below_drew | apply below_alloc | apply pw_below_drewN)) hb); clear HB; have HB := m_; clear m_))
          clear hb
          refine ⟨_, rfl, ?_⟩
          refine hK.out _ _ ⟨HS1.out _ (by repeat (first | exact HB.out | apply below_drew | apply below_alloc | apply pw_below_drewN)), HS2.out _ (by repeat (first | exact HB.out | apply below_drew | apply below_alloc | apply pw_below_drewN))⟩ (fun hHeld => ?_)
          clear hK K
          refine norm_ (a' := ?_) ?_ ?_
          rotate_left
          · show Act.put _ (some 103) _ = _
            simp only [Act.put, List.setIfInBounds_toArray, List.set_cons_zero, List.set_cons_succ, i64_w, i32_w]
            rfl
          refine take_ (i := 30) (N := (some 104)) (v := ?_) (a' := ?_) #[true, true, true, true, true, true, true, true, true, true, true, true, true, true, true, true, true, true, true, true, true, true, true, true, true, true, true, true, true, true, true, false] rfl rfl (take_ofW HT_.out HW_.out (by kernel_rfl)) (fun _ _ _ h => h) (Or.inl ⟨by rfl, ?_⟩) hHeld ?_ ?_
          rotate_left
          · rintro w' ⟨s0_, s1_⟩
            go_simp
            with_reducible rfl
          rotate_left
          · simp only [Act.put, List.setIfInBounds_toArray, List.set_cons_zero, List.set_cons_succ, i64_w, i32_w]
            rfl
          refine take_ (i := 31) (N := (some 4)) (v := ?_) (a' := ?_) #[true, true, true, true, true, true, true, true, true, true, true, true, true, true, true, true, true, true, true, true, true, true, true, true, true, true, true, true, true, true, true, true] rfl rfl (take_ofW HT_.out HW_.out (by kernel_rfl)) (fun _ _ _ h => h) (Or.inl ⟨by rfl, ?_⟩) hHeld ?_ ?_
          rotate_left
          · rintro w' ⟨s0_, s1_⟩
            go_simp
            with_reducible rfl
          rotate_left
          · simp only [Act.put, List.setIfInBounds_toArray, List.set_cons_zero, List.set_cons_succ, i64_w, i32_w]
            rfl
          refine done_ (done_of HT_.out (by kernel_rfl)) ?_
          go_wp2
          go_ret
          exact ⟨rfl, below_step HBz.out HB.out⟩
        · intro J_
          refine two_ (i := 2) (j := 4) (Ni := (some 76)) (Nj := (some 78)) #[true, true, true, true, false, false, false, false, false, false, false, false, false, false, false, false, false, false, false, false, false, false, false, false, false, false, false, false, false, false, false, false] #[true, true, false, true, true, false, false, false, false, false, false, false, false, false, false, false, false, false, false, false, false, false, false, false, false, false, false, false, false, false, false, false] rfl rfl rfl rfl (two_of HT_.out (by kernel_rfl)) (by decide) (by decide) (fun K hK => ?_)  (fun K hK => ?_)
          · skip
            refine value_ (by rfl) rfl (v := ?_) (w1 := ?_) ?_ ?_
            rotate_left 2
            · (go_simp; rw [HD1.out, HSP.out] <;> first | rfl | (repeat (first | exact HD.out | apply below_drew | apply below_alloc | apply pw_below_drewN)))
            refine hK.out _ _ ⟨HS1.out _ (by repeat (first | exact HB.out | apply below_drew | apply below_alloc | apply pw_below_drewN)), HS2.out _ (by repeat (first | exact HB.out | apply below_drew | apply below_alloc | apply pw_below_drewN))⟩ (fun hHeld => ?_)
            clear hK K
            refine norm_ (a' := ?_) ?_ ?_
            rotate_left
            · show Act.put _ (some 76) _ = _
              simp only [Act.put, List.setIfInBounds_toArray, List.set_cons_zero, List.set_cons_succ, i64_w, i32_w]
              rfl
            refine one_ (i := 4) (N := (some 78)) #[true, true, true, true, true, false, false, false, false, false, false, false, false, false, false, false, false, false, false, false, false, false, false, false, false, false, false, false, false, false, false, false] rfl rfl (one_of HT_.out (by kernel_rfl)) (by decide) (fun K hK => ?_)
            refine goes_ Try.func20 (by kernel_rfl) rfl #[.pointer (some ⟨B, 0, none⟩)] (by rfl) rfl rfl (by first | rfl | (simp only [List.map_toArray, List.map_cons, List.map_nil]; try rfl)) ?_
            (with_reducible refine (bt_done B _ v2' L _ (two_snd (HWx.out.below (by repeat (first | exact HB.out | apply below_drew | apply below_alloc | apply pw_below_drewN)))) HLE.out).mono ?_)
            rintro e_ w_ ⟨ve, rfl, hR, hb⟩
            have HE1 := Aside0.mk (s_own8 hR)
            (try (have m_ := Aside0.mk (below_step (by repeat (first | exact HD.out | apply below_drew | apply below_alloc | apply pw_below_drewN)) hb); clear HD; have HD := m_; clear m_))
            (try (have m_ := Aside0.mk (below_step (by repeat (first | exact HB.out | apply below_drew | apply below_alloc | apply pw_below_drewN)) hb); clear HB; have HB := m_; clear m_))
            clear hb
            have HE := Aside0.mk (Below.refl w_.heap.size w_)
            clear hR
            refine ⟨_, rfl, ?_⟩
            refine hK.out _ _ ⟨HS1.out _ (by repeat (first | exact HB.out | apply below_drew | apply below_alloc | apply pw_below_drewN)), HS2.out _ (by repeat (first | exact HB.out | apply below_drew | apply below_alloc | apply pw_below_drewN))⟩ (fun hHeld => ?_)
            clear hK K
            refine norm_ (a' := ?_) ?_ ?_
            rotate_left
            · show Act.put _ (some 78) _ = _
              simp only [Act.put, List.setIfInBounds_toArray, List.set_cons_zero, List.set_cons_succ, i64_w, i32_w]
              rfl
            refine one_ (i := 5) (N := (some 79)) #[true, true, true, true, true, true, false, false, false, false, false, false, false, false, false, false, false, false, false, false, false, false, false, false, false, false, false, false, false, false, false, false] rfl rfl (one_of HT_.out (by kernel_rfl)) (by decide) (fun K hK => ?_)
            refine value_ (by rfl) rfl (v := ?_) (w1 := ?_) ?_ ?_
            rotate_left 2
            · (go_simp; rw [HE1.out, HSP.out] <;> first | rfl | (repeat (first | exact HE.out | apply below_drew | apply below_alloc | apply pw_below_drewN)))
            refine hK.out _ _ ⟨HS1.out _ (by repeat (first | exact HB.out | apply below_drew | apply below_alloc | apply pw_below_drewN)), HS2.out _ (by repeat (first | exact HB.out | apply below_drew | apply below_alloc | apply pw_below_drewN))⟩ (fun hHeld => ?_)
            clear hK K
            refine norm_ (a' := ?_) ?_ ?_
            rotate_left
            · show Act.put _ (some 79) _ = _
              simp only [Act.put, List.setIfInBounds_toArray, List.set_cons_zero, List.set_cons_succ, i64_w, i32_w]
              rfl
            refine norm_ (a' := putAll _ _) ?_ (J_ ve _ ⟨hHeld, (by repeat (first | exact HB.out | apply below_drew | apply below_alloc | apply pw_below_drewN))⟩)
            simp only [putAll, Act.put, List.setIfInBounds_toArray, List.set_cons_zero, List.set_cons_succ]
          · skip
            refine goes_ Try.func20 (by kernel_rfl) rfl #[.pointer (some ⟨B, 0, none⟩)] (by rfl) rfl rfl (by first | rfl | (simp only [List.map_toArray, List.map_cons, List.map_nil]; try rfl)) ?_
            (with_reducible refine (bt_done B _ v2' L _ (two_snd (HWx.out.below (by repeat (first | exact HB.out | apply below_drew | apply below_alloc | apply pw_below_drewN)))) HLE.out).mono ?_)
            rintro e_ w_ ⟨ve, rfl, hR, hb⟩
            have HE1 := Aside0.mk (s_own8 hR)
            (try (have m_ := Aside0.mk (below_step (by repeat (first | exact HD.out | apply below_drew | apply below_alloc | apply pw_below_drewN)) hb); clear HD; have HD := m_; clear m_))
            (try (have m_ := Aside0.mk (below_step (by repeat (first | exact HB.out | apply below_drew | apply below_alloc | apply pw_below_drewN)) hb); clear HB; have HB := m_; clear m_))
            clear hb
            have HE := Aside0.mk (Below.refl w_.heap.size w_)
            clear hR
            refine ⟨_, rfl, ?_⟩
            refine hK.out _ _ ⟨HS1.out _ (by repeat (first | exact HB.out | apply below_drew | apply below_alloc | apply pw_below_drewN)), HS2.out _ (by repeat (first | exact HB.out | apply below_drew | apply below_alloc | apply pw_below_drewN))⟩ (fun hHeld => ?_)
            clear hK K
            refine norm_ (a' := ?_) ?_ ?_
            rotate_left
            · show Act.put _ (some 78) _ = _
              simp only [Act.put, List.setIfInBounds_toArray, List.set_cons_zero, List.set_cons_succ, i64_w, i32_w]
              rfl
            refine two_ (i := 2) (j := 5) (Ni := (some 76)) (Nj := (some 79)) #[true, true, true, true, true, false, false, false, false, false, false, false, false, false, false, false, false, false, false, false, false, false, false, false, false, false, false, false, false, false, false, false] #[true, true, false, true, true, true, false, false, false, false, false, false, false, false, false, false, false, false, false, false, false, false, false, false, false, false, false, false, false, false, false, false] rfl rfl rfl rfl (two_of HT_.out (by kernel_rfl)) (by decide) (by decide) (fun K hK => ?_)  (fun K hK => ?_)
            · skip
              refine value_ (by rfl) rfl (v := ?_) (w1 := ?_) ?_ ?_
              rotate_left 2
              · (go_simp; rw [HD1.out, HSP.out] <;> first | rfl | (repeat (first | exact HD.out | apply below_drew | apply below_alloc | apply pw_below_drewN)))
              refine hK.out _ _ ⟨HS1.out _ (by repeat (first | exact HB.out | apply below_drew | apply below_alloc | apply pw_below_drewN)), HS2.out _ (by repeat (first | exact HB.out | apply below_drew | apply below_alloc | apply pw_below_drewN))⟩ (fun hHeld => ?_)
              clear hK K
              refine norm_ (a' := ?_) ?_ ?_
              rotate_left
              · show Act.put _ (some 76) _ = _
                simp only [Act.put, List.setIfInBounds_toArray, List.set_cons_zero, List.set_cons_succ, i64_w, i32_w]
                rfl
              refine one_ (i := 5) (N := (some 79)) #[true, true, true, true, true, true, false, false, false, false, false, false, false, false, false, false, false, false, false, false, false, false, false, false, false, false, false, false, false, false, false, false] rfl rfl (one_of HT_.out (by kernel_rfl)) (by decide) (fun K hK => ?_)
              refine value_ (by rfl) rfl (v := ?_) (w1 := ?_) ?_ ?_
              rotate_left 2
              · (go_simp; rw [HE1.out, HSP.out] <;> first | rfl | (repeat (first | exact HE.out | apply below_drew | apply below_alloc | apply pw_below_drewN)))
              refine hK.out _ _ ⟨HS1.out _ (by repeat (first | exact HB.out | apply below_drew | apply below_alloc | apply pw_below_drewN)), HS2.out _ (by repeat (first | exact HB.out | apply below_drew | apply below_alloc | apply pw_below_drewN))⟩ (fun hHeld => ?_)
              clear hK K
              refine norm_ (a' := ?_) ?_ ?_
              rotate_left
              · show Act.put _ (some 79) _ = _
                simp only [Act.put, List.setIfInBounds_toArray, List.set_cons_zero, List.set_cons_succ, i64_w, i32_w]
                rfl
              refine norm_ (a' := putAll _ _) ?_ (J_ ve _ ⟨hHeld, (by repeat (first | exact HB.out | apply below_drew | apply below_alloc | apply pw_below_drewN))⟩)
              simp only [putAll, Act.put, List.setIfInBounds_toArray, List.set_cons_zero, List.set_cons_succ]
            · skip
              refine value_ (by rfl) rfl (v := ?_) (w1 := ?_) ?_ ?_
              rotate_left 2
              · (go_simp; rw [HE1.out, HSP.out] <;> first | rfl | (repeat (first | exact HE.out | apply below_drew | apply below_alloc | apply pw_below_drewN)))
              refine hK.out _ _ ⟨HS1.out _ (by repeat (first | exact HB.out | apply below_drew | apply below_alloc | apply pw_below_drewN)), HS2.out _ (by repeat (first | exact HB.out | apply below_drew | apply below_alloc | apply pw_below_drewN))⟩ (fun hHeld => ?_)
              clear hK K
              refine norm_ (a' := ?_) ?_ ?_
              rotate_left
              · show Act.put _ (some 79) _ = _
                simp only [Act.put, List.setIfInBounds_toArray, List.set_cons_zero, List.set_cons_succ, i64_w, i32_w]
                rfl
              refine one_ (i := 2) (N := (some 76)) #[true, true, true, true, true, true, false, false, false, false, false, false, false, false, false, false, false, false, false, false, false, false, false, false, false, false, false, false, false, false, false, false] rfl rfl (one_of HT_.out (by kernel_rfl)) (by decide) (fun K hK => ?_)
              refine value_ (by rfl) rfl (v := ?_) (w1 := ?_) ?_ ?_
              rotate_left 2
              · (go_simp; rw [HD1.out, HSP.out] <;> first | rfl | (repeat (first | exact HD.out | apply below_drew | apply below_alloc | apply pw_below_drewN)))
              refine hK.out _ _ ⟨HS1.out _ (by repeat (first | exact HB.out | apply below_drew | apply below_alloc | apply pw_below_drewN)), HS2.out _ (by repeat (first | exact HB.out | apply below_drew | apply below_alloc | apply pw_below_drewN))⟩ (fun hHeld => ?_)
              clear hK K
              refine norm_ (a' := ?_) ?_ ?_
              rotate_left
              · show Act.put _ (some 76) _ = _
                simp only [Act.put, List.setIfInBounds_toArray, List.set_cons_zero, List.set_cons_succ, i64_w, i32_w]
                rfl
              refine norm_ (a' := putAll _ _) ?_ (J_ ve _ ⟨hHeld, (by repeat (first | exact HB.out | apply below_drew | apply below_alloc | apply pw_below_drewN))⟩)
              simp only [putAll, Act.put, List.setIfInBounds_toArray, List.set_cons_zero, List.set_cons_succ]
end Go.Proofs.Ytaoiamifofkklaa.Pure
