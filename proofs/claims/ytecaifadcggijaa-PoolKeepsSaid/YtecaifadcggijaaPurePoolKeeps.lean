/- Proved: carillonlaw31.PoolKeeps returns true: what was added stays as it was, under its number, whatever comes behind; it was sent. Conditions: none. -/
import Derived.Test.YtecaifadcggijaaPPoolKx1
import Derived.Test.YtecaifadcggijaaX1Pure
import Derived.Test.YtecaifadcggijaaXPoolC
namespace Go.Proofs.Ytecaifadcggijaa.Pure
open Go.RowKit Go.Proofs.Ytecaifadcggijaa.PPoolK Go.Proofs.YtecaifadcggijaaW.PrintWords Go.Proofs.YtecaifadcggijaaW.PrintLast Go.Proofs.YtecaifadcggijaaW.PrintMore
set_option linter.unusedVariables false
set_option linter.unusedSimpArgs false
def pk.T21 : Bool × List (List Nat × List Nat) := (true, [([], []), ([0], [0]), ([1], [1]), ([2], [2]), ([2], [2]), ([4, 2], [2, 4]), ([3, 5, 2], [2, 3, 5]), ([2, 6], [2, 6]), ([7, 2], [7]), ([8], [8]), ([9, 8], [8, 9]), ([8], [8]), ([8], [8]), ([11, 12, 8], [8, 11, 12]), ([13, 8], [8, 13]), ([14, 8], [8, 14]), ([10, 15, 8], [8, 10, 15]), ([8, 16], [8, 16]), ([17, 8], [17]), ([18], [18]), ([18], [18]), ([18], [18]), ([20, 21, 18], [18, 20, 21]), ([22, 18], [18, 22]), ([19, 23, 18, 18], [18, 19, 23]), ([24, 18], [18, 24]), ([18, 25], [18, 25])])
def pk.B21 : List Nat := [0, 1, 3, 7, 7, 23, 63, 127, 255, 511, 1023, 511, 511, 6655, 14847, 31231, 65535, 131071, 262143, 524287, 524287, 524287, 3670015, 7864319, 16777215, 33554431, 67108863]
theorem pk.tab21 : rtab .any (opsOf Try.f3 21) = pk.T21 := by kernel_rfl
theorem pk.bits21 : waitsOk pk.T21.2 pk.B21 = true := by kernel_rfl
open Go.Proofs.Ytecaifadcggijaa.Obj Go.Maps Go.WideMaps
theorem getD_b {l0 : List (List Int)} {k : Nat} (h : ∀ r ∈ l0, r.length * 1 ≤ 140737488351232 ∧ ∀ x ∈ r, (Lit.int .u8 x).wf = true) : (l0.getD k []).length ≤ 140737488351232 := by
  rw [List.getD_eq_getElem?_getD]
  rcases hk : l0[k]? with _ | r
  · simp
  · have hm : r ∈ l0 := List.mem_of_getElem? hk
    have q := (h r hm).1
    simp
    omega
set_option maxHeartbeats 16000000 in
set_option maxRecDepth 100000 in
theorem keeps_main (K n c0 : Nat) (A0 : Option Addr) (l0 : List (List Int)) (w : World) (hr0 : Kd.C (Kd.slice 5 (Kd.int .u8)) w A0 n l0) (hn : n ≤ 140737488351232) (hw0 : ∀ r ∈ l0, r.length * 1 ≤ 140737488351232 ∧ ∀ x ∈ r, (Lit.int .u8 x).wf = true)
    (hK1 : K ≤ n) (hK2 : K ≤ 60) (hK : ¬ (K : Int) < n ∨ ((K : Int) < n ∧ ¬ (K : Int) < 60)) :
    Calls Try.prog 3 #[.slice A0 n c0] w fun e w' => e = .returned (.bool true) ∧ Below w.heap.size w w' := by
  have HR := Aside0.mk hr0
  have HW := Aside0.mk hw0
  have HK := Aside0.mk hK
  clear hr0 hw0 hK
  go_enter Try.func3, Try.ntmps3
  go_wp2_with (go_at_call 11; (with_reducible refine (pl_new _).mono ?_); rintro e w1 ⟨P, bm, rfl, hP, hb⟩; have HP1 := Aside0.mk hP; have HB1 := Aside0.mk hb; clear hP hb)
  go_loopw [4] (fun v4 wr => ∃ (k : Nat) (v : Value), k ≤ K ∧ v4 = .int .i64 k ∧ Aside0 (PL wr w.heap.size P v bm (items l0 k)) ∧ Aside0 (Below w.heap.size w wr)) (fun v4 _ => K - (intOf v4).toNat)
  case atStart => exact ⟨0, _, Nat.zero_le _, rfl, HP1, HB1⟩
  case round =>
    clear HP1 HB1
    obtain ⟨k, v, hk, rfl, XP, XW⟩ := hrel
    by_cases hlt : k < K
    · obtain ⟨ad, Ab, cb, rfl, hcell, hcb, hCb⟩ := pl_rows HR.out k (by omega)
      have hxl := getD_b (k := k) HW.out
      have hit := items_succ l0 k
      obtain ⟨xs, hxs⟩ : ∃ xs, l0.getD k [] = xs := ⟨_, rfl⟩
      rw [hxs] at hcell hcb hCb hxl hit
      have CC : Aside0 (∀ W, Below w.heap.size w W → W.cell? (ad.add k) = some (.slice Ab xs.length cb)) := ⟨fun W hb => fl_low hcell hb⟩
      have q0 := CC.out _ XW.out
      obtain ⟨m, hm⟩ : ∃ m, xs.length = m := ⟨_, rfl⟩
      rw [hm] at hcb hCb hxl q0 CC
      have HCB := Aside0.mk hCb
      have HM := Aside0.mk hm
      have HML := Aside0.mk hxl
      have HIT := Aside0.mk hit
      have i1 : (k : Int) < (n : Int) := by omega
      have i2 : (k : Int) < 60 := by omega
      have i4 : 0 ≤ (k : Int) % 8 ∧ (k : Int) % 8 < 8 := by omega
      have q0a : ∀ o : Obj, (wr.alloc o).cell? (ad.add k) = some (.slice Ab m cb) := fun o => CC.out _ (XW.out.alloc XW.out.size o)
      clear hcell hCb hcb hxs hm hit hxl
      go_upto_region 7 with ((with_reducible refine gate_dst (N := 29) rfl ?_); (refine x_append .u8 (w0 := w) w.heap.size rfl (.tmp 24) (.tmp 28) 25 5 1 rfl Try.underlying25 pl_get_info (by decide) (.slice (some ⟨wr.heap.size, 0, none⟩) 0 0) [] xs Ab m cb rfl rfl (Kd.R_lower (sc_empty wr _) XW.out.size) (Kd.C_below HCB.out (XW.out.alloc XW.out.size _)) (XW.out.alloc XW.out.size _) (XW.out.alloc XW.out.size _).size (by have := HML.out; simp; omega) ?_); intro v5 w5 ho5 hb5 hg5 hn5; rw [List.nil_append] at ho5; have HO5 := Aside0.mk ho5; have HB5 := Aside0.mk hb5; have HP5 := Aside0.mk (pl_beside XP.out hg5); clear ho5 hb5 hg5 hn5)
      clear q0a
      obtain ⟨A5, c5, rfl, hc5, hC5⟩ := Kd.R_reads HO5.out
      rw [HM.out] at HO5 hC5 hc5
      rw [HM.out]
      have HC5 := Aside0.mk hC5
      have hm5 : m ≤ c5 := hc5
      have q5 := CC.out _ HB5.out
      clear hC5 hc5
      by_cases hbig : 96 < m
      · have i5 : (96 : Int) < (m : Int) := by omega
        go_wp2_with (first
          | (go_at_call 12; (with_reducible refine (pl_add_arg P w.heap.size bm v (items l0 k) _ HP5.out _ A5 m c5 (.inr (.inr hbig))).mono ?_); rintro e w6 ⟨rfl, rfl⟩)
          | (go_at_call 13; (with_reducible refine (pl_awake _).mono ?_); rintro e w8 ⟨rfl, hb⟩; have HB8 := Aside0.mk (below_step HB5.out hb); clear hb))
        go_ret
        exact ⟨rfl, HB8.out⟩
      · have HMB := Aside0.mk (Nat.le_of_not_lt hbig)
        go_upto_region 12 with (go_at_call 12; (with_reducible refine (pl_add P w.heap.size bm v (items l0 k) _ HP5.out ((k : Int) % 8) i4.1 i4.2 A5 m c5 xs (pl_foot HP5.out HO5.out) HMB.out (by rw [items_len]; omega)).mono ?_); rintro e w6 ⟨v6, rfl, hP, hk6, hb⟩; rw [← HIT.out] at hP; rw [items_len]; have HP6 := Aside0.mk hP; have HO6 := Aside0.mk (pl_row HP5.out HO5.out hk6); have HB6 := Aside0.mk (HB5.out.trans hb); clear hP hk6 hb q5)
        clear q0 HCB
        go_wp2
        go_loopw [8] (fun v8 wi => ∃ (i : Nat) (ys : List Int), i ≤ m ∧ v8 = .int .i64 i ∧ ys.length = m ∧ Aside0 (Kd.R (Kd.int .u8) 5 wi w.heap.size (fun _ => True) (.slice A5 m c5) ys) ∧ Aside0 (PL wi w.heap.size P v6 bm (items l0 (k + 1))) ∧ Aside0 (Below w.heap.size w wi)) (fun v8 _ => m - (intOf v8).toNat)
        case atStart => exact ⟨0, xs, Nat.zero_le _, rfl, HM.out, HO6, HP6, HB6⟩
        case round =>
          clear HO6 HP6 HB6
          obtain ⟨i, ys, him, rfl, hyl, XO, XQ, XB⟩ := hrel
          by_cases hil : i < m
          · obtain ⟨g, cap, hv, _⟩ := Kd.R_form XO.out (by omega)
            injection hv with hv1 hv2 hv3
            subst hv1
            subst hv3
            have hcc := own_at_of (d := (0 : Int)) (enc := Value.int .u8) (by have q := Kd.own_of_R (enc := Value.int .u8) (h1 := fun _ => rfl) XO.out; rw [hyl] at q; exact q) (i : Int) (by omega) (by omega)
            rw [Int.toNat_natCast] at hcc
            obtain ⟨y, hy⟩ : ∃ y, rdOf (0 : Int) ys (i : Int) = y := ⟨_, rfl⟩
            rw [hy] at hcc
            obtain ⟨hc1, hc2⟩ := hcc
            have j1 : (i : Int) < (m : Int) := by omega
            have HYL := Aside0.mk hyl
            clear hy hyl
            go_wp2
            have hput := Kd.R_putn XO.out (i : Int) ((y + 1) % 256)
            rw [Int.toNat_natCast] at hput
            have hg := Kd.R_base XO.out g rfl
            have hm1 : i + 1 ≤ m := hil
            refine ⟨⟨i + 1, ys.set i ((y + 1) % 256), hm1, by simp, by rw [List.length_set]; exact HYL.out, ⟨hput⟩, ⟨pl_store XQ.out XO.out⟩, ⟨XB.out.setCell (p := ⟨g, i, none⟩) hg _⟩⟩, ?_⟩
            simp [intOf]
            omega
          · obtain rfl : i = m := by omega
            go_wp2
            refine ⟨⟨k + 1, v6, hlt, by simp, XQ, XB⟩, ?_⟩
            simp [intOf]
            omega
    · obtain rfl : k = K := by omega
      have hKK := HK.out
      have HKn := Aside0.mk hK1
      have HK6 := Aside0.mk hK2
      rcases hKK with h | ⟨h, h2⟩
      all_goals
        go_wp2
        go_loopw [9] (fun v9 wi => ∃ (i : Nat), i ≤ k ∧ v9 = .int .i64 i ∧ Aside0 (PL wi w.heap.size P v bm (items l0 k)) ∧ Aside0 (Below w.heap.size w wi)) (fun v9 _ => k - (intOf v9).toNat)
        case atStart => exact ⟨0, Nat.zero_le _, rfl, XP, XW⟩
        case round =>
          clear XP XW
          obtain ⟨i, hi, rfl, XP, XW⟩ := hrel
          by_cases hlt2 : i < k
          · obtain ⟨ad, Ab, cb, rfl, hcell, hcb, hCb⟩ := pl_rows HR.out i (by have := HKn.out; omega)
            have hxl := getD_b (k := i) HW.out
            have hsent := items_sent l0 k i hlt2
            have hget := fun wx hx => pl_get_item P w.heap.size bm v l0 k i wx hx hlt2 (by have := HK6.out; omega) hxl
            obtain ⟨xs, hxs⟩ : ∃ xs, l0.getD i [] = xs := ⟨_, rfl⟩
            rw [hxs] at hcell hcb hCb hxl hsent
            simp only [hxs] at hget
            have CC : Aside0 (∀ W, Below w.heap.size w W → W.cell? (ad.add i) = some (.slice Ab xs.length cb)) := ⟨fun W hb => fl_low hcell hb⟩
            obtain ⟨m, hm⟩ : ∃ m, xs.length = m := ⟨_, rfl⟩
            rw [hm] at hcb hCb hxl CC
            simp only [hm] at hget
            obtain ⟨s, hs⟩ : ∃ s, strOfNums xs = s := ⟨_, rfl⟩
            have HST : Aside0 (∀ W, Below w.heap.size w W → (convert 25 9 (.slice Ab m cb)).run Try.prog W = .ok (.string s) W) := ⟨by rw [← hs]; exact pl_str cb hCb⟩
            rw [hs] at hsent
            simp only [hs] at hget
            have HCB := Aside0.mk hCb
            have HG := Aside0.mk hget
            have HSE := Aside0.mk hsent
            have HSS := Aside0.mk hs
            have HML := Aside0.mk hxl
            clear hcell hCb hcb hxs hm hxl hs hget hsent
            go_wp2_with (first
              | (go_at_call 14; (with_reducible refine (HG.out _ XP.out).mono ?_); rintro e w7 ⟨A7, c7, rfl, hs7, hb⟩; have H7 := Aside0.mk hs7; have HB7 := Aside0.mk (below_step XW.out hb); have HP7 := Aside0.mk (XP.out.below hb); clear hb hs7))
            have HBW := Aside0.mk (Below.refl w7.heap.size w7)
            have htm : (i : Int).tmod 8 = (i : Int) % 8 := Int.tmod_eq_emod_of_nonneg (by omega)
            refine start_ (n := 27) (S := fun w' => w'.cell? (ad.add i) = some (.slice Ab m cb)) (ds := []) #[false, false, false, false, false, false, false, false, false, false, false, false, false, false, false, false, false, false, false, false, false, false, false, false, false, false, false] (by kernel_rfl) rfl rfl (CC.out _ (below_step HB7.out (by repeat (first | exact HBW.out | apply below_drew | apply below_alloc | apply pw_below_drewN)))) (fun hHeld => ?_); refine with_tabW pk.tab21 pk.bits21 (fun HT_ HW_ => ?_)
            refine take_ (i := 0) (N := (some 90)) (v := ?_) (a' := ?_) #[true, false, false, false, false, false, false, false, false, false, false, false, false, false, false, false, false, false, false, false, false, false, false, false, false, false, false] rfl rfl (take_ofW HT_.out HW_.out (by kernel_rfl)) (fun _ _ _ h => h) (Or.inl ⟨by rfl, ?_⟩) hHeld ?_ ?_
            rotate_left
            · rintro w' s0_
              go_simp
              with_reducible rfl
            rotate_left
            · simp only [Act.put, List.setIfInBounds_toArray, List.set_cons_zero, List.set_cons_succ, i64_w, i32_w]
              rfl
            refine take_ (i := 1) (N := (some 91)) (v := ?_) (a' := ?_) #[true, true, false, false, false, false, false, false, false, false, false, false, false, false, false, false, false, false, false, false, false, false, false, false, false, false, false] rfl rfl (take_ofW HT_.out HW_.out (by kernel_rfl)) (fun _ _ _ h => h) (Or.inl ⟨by rfl, ?_⟩) hHeld ?_ ?_
            rotate_left
            · rintro w' s0_
              go_simp
              with_reducible rfl
            rotate_left
            · simp only [Act.put, List.setIfInBounds_toArray, List.set_cons_zero, List.set_cons_succ, i64_w, i32_w]
              rfl
            refine take_ (i := 2) (N := (some 92)) (v := ?_) (a' := ?_) #[true, true, true, false, false, false, false, false, false, false, false, false, false, false, false, false, false, false, false, false, false, false, false, false, false, false, false] rfl rfl (take_ofW HT_.out HW_.out (by kernel_rfl)) (fun _ _ _ h => h) (Or.inl ⟨by rfl, ?_⟩) hHeld ?_ ?_
            rotate_left
            · rintro w' s0_
              go_simp
              with_reducible rfl
            rotate_left
            · simp only [Act.put, List.setIfInBounds_toArray, List.set_cons_zero, List.set_cons_succ, i64_w, i32_w]
              rfl
            refine take_ (i := 3) (N := (some 93)) (v := ?_) (a' := ?_) #[true, true, true, true, false, false, false, false, false, false, false, false, false, false, false, false, false, false, false, false, false, false, false, false, false, false, false] rfl rfl (take_ofW HT_.out HW_.out (by kernel_rfl)) (fun _ _ _ h => h) (Or.inl ⟨by rfl, ?_⟩) hHeld ?_ ?_
            rotate_left
            · rintro w' s0_
              go_simp
              with_reducible rfl
            rotate_left
            · simp only [Act.put, List.setIfInBounds_toArray, List.set_cons_zero, List.set_cons_succ, i64_w, i32_w]
              rfl
            refine take_ (i := 4) (N := (some 94)) (v := ?_) (a' := ?_) #[true, true, true, true, true, false, false, false, false, false, false, false, false, false, false, false, false, false, false, false, false, false, false, false, false, false, false] rfl rfl (take_ofW HT_.out HW_.out (by kernel_rfl)) (fun _ _ _ h => h) (Or.inl ⟨by rfl, ?_⟩) hHeld ?_ ?_
            rotate_left
            · rintro w' s0_
              go_simp
              with_reducible rfl
            rotate_left
            · simp only [Act.put, List.setIfInBounds_toArray, List.set_cons_zero, List.set_cons_succ, i64_w, i32_w]
              rfl
            refine one_ (i := 5) (N := (some 95)) #[true, true, true, true, true, true, false, false, false, false, false, false, false, false, false, false, false, false, false, false, false, false, false, false, false, false, false] rfl rfl (one_of HT_.out (by kernel_rfl)) (by decide) (fun K hK => ?_)
            refine value_ (by rfl) rfl (v := ?_) (w1 := ?_) ?_ ?_
            rotate_left 2
            · (go_simp; first | (with_reducible rfl) | (constructor <;> with_reducible rfl) | exact rfl)
            refine hK.out _ _ (CC.out _ (below_step HB7.out (by repeat (first | exact HBW.out | apply below_drew | apply below_alloc | apply pw_below_drewN)))) (fun hHeld => ?_)
            clear hK K
            refine norm_ (a' := ?_) ?_ ?_
            rotate_left
            · show Act.put _ (some 95) _ = _
              simp only [Act.put, List.setIfInBounds_toArray, List.set_cons_zero, List.set_cons_succ, i64_w, i32_w]
              rfl
            refine one_ (i := 6) (N := (some 96)) #[true, true, true, true, true, true, true, false, false, false, false, false, false, false, false, false, false, false, false, false, false, false, false, false, false, false, false] rfl rfl (one_of HT_.out (by kernel_rfl)) (by decide) (fun K hK => ?_)
            refine value_ (by rfl) rfl (v := ?_) (w1 := ?_) ?_ ?_
            rotate_left 2
            · (go_simp; first | (with_reducible rfl) | (constructor <;> with_reducible rfl) | exact rfl)
            refine hK.out _ _ (CC.out _ (below_step HB7.out (by repeat (first | exact HBW.out | apply below_drew | apply below_alloc | apply pw_below_drewN)))) (fun hHeld => ?_)
            clear hK K
            refine norm_ (a' := ?_) ?_ ?_
            rotate_left
            · show Act.put _ (some 96) _ = _
              simp only [Act.put, List.setIfInBounds_toArray, List.set_cons_zero, List.set_cons_succ, i64_w, i32_w]
              rfl
            refine take_ (i := 7) (N := (some 97)) (v := ?_) (a' := ?_) #[true, true, true, true, true, true, true, true, false, false, false, false, false, false, false, false, false, false, false, false, false, false, false, false, false, false, false] rfl rfl (take_ofW HT_.out HW_.out (by kernel_rfl)) (fun _ _ _ h => h) (Or.inl ⟨by rfl, ?_⟩) hHeld ?_ ?_
            rotate_left
            · rintro w' s0_
              go_simp
              with_reducible rfl
            rotate_left
            · simp only [Act.put, List.setIfInBounds_toArray, List.set_cons_zero, List.set_cons_succ, i64_w, i32_w]
              rfl
            refine take_ (i := 8) (N := (some 98)) (v := ?_) (a' := ?_) #[true, true, true, true, true, true, true, true, true, false, false, false, false, false, false, false, false, false, false, false, false, false, false, false, false, false, false] rfl rfl (take_ofW HT_.out HW_.out (by kernel_rfl)) (fun _ _ _ h => h) (Or.inl ⟨by rfl, ?_⟩) hHeld ?_ ?_
            rotate_left
            · rintro w' s0_
              go_simp
              with_reducible rfl
            rotate_left
            · simp only [Act.put, List.setIfInBounds_toArray, List.set_cons_zero, List.set_cons_succ, i64_w, i32_w]
              rfl
            refine take_ (i := 9) (N := (some 99)) (v := ?_) (a' := ?_) #[true, true, true, true, true, true, true, true, true, true, false, false, false, false, false, false, false, false, false, false, false, false, false, false, false, false, false] rfl rfl (take_ofW HT_.out HW_.out (by kernel_rfl)) (fun _ _ _ h => h) (Or.inl ⟨by rfl, ?_⟩) hHeld ?_ ?_
            rotate_left
            · rintro w' s0_
              go_simp
              with_reducible rfl
            rotate_left
            · simp only [Act.put, List.setIfInBounds_toArray, List.set_cons_zero, List.set_cons_succ, i64_w, i32_w]
              rfl
            refine take_ (i := 11) (N := (some 101)) (v := ?_) (a' := ?_) #[true, true, true, true, true, true, true, true, true, true, false, true, false, false, false, false, false, false, false, false, false, false, false, false, false, false, false] rfl rfl (take_ofW HT_.out HW_.out (by kernel_rfl)) (fun _ _ _ h => h) (Or.inl ⟨by rfl, ?_⟩) hHeld ?_ ?_
            rotate_left
            · rintro w' s0_
              go_simp
              with_reducible rfl
            rotate_left
            · simp only [Act.put, List.setIfInBounds_toArray, List.set_cons_zero, List.set_cons_succ, i64_w, i32_w]
              rfl
            refine take_ (i := 12) (N := (some 102)) (v := ?_) (a' := ?_) #[true, true, true, true, true, true, true, true, true, true, false, true, true, false, false, false, false, false, false, false, false, false, false, false, false, false, false] rfl rfl (take_ofW HT_.out HW_.out (by kernel_rfl)) (fun _ _ _ h => h) (Or.inl ⟨by rfl, ?_⟩) hHeld ?_ ?_
            rotate_left
            · rintro w' s0_
              go_simp
              with_reducible rfl
            rotate_left
            · simp only [Act.put, List.setIfInBounds_toArray, List.set_cons_zero, List.set_cons_succ, i64_w, i32_w]
              rfl
            refine take_ (i := 13) (N := (some 103)) (v := ?_) (a' := ?_) #[true, true, true, true, true, true, true, true, true, true, false, true, true, true, false, false, false, false, false, false, false, false, false, false, false, false, false] rfl rfl (take_ofW HT_.out HW_.out (by kernel_rfl)) (fun _ _ _ h => h) (Or.inl ⟨by rfl, ?_⟩) hHeld ?_ ?_
            rotate_left
            · rintro w' s0_
              go_simp
              with_reducible rfl
            rotate_left
            · simp only [Act.put, List.setIfInBounds_toArray, List.set_cons_zero, List.set_cons_succ, i64_w, i32_w]
              rfl
            refine take_ (i := 14) (N := (some 104)) (v := ?_) (a' := ?_) #[true, true, true, true, true, true, true, true, true, true, false, true, true, true, true, false, false, false, false, false, false, false, false, false, false, false, false] rfl rfl (take_ofW HT_.out HW_.out (by kernel_rfl)) (fun _ _ _ h => h) (Or.inl ⟨by rfl, ?_⟩) hHeld ?_ ?_
            rotate_left
            · rintro w' s0_
              go_simp
              with_reducible rfl
            rotate_left
            · simp only [Act.put, List.setIfInBounds_toArray, List.set_cons_zero, List.set_cons_succ, i64_w, i32_w]
              rfl
            refine two_ (i := 10) (j := 15) (Ni := (some 100)) (Nj := (some 105)) #[true, true, true, true, true, true, true, true, true, true, true, true, true, true, true, false, false, false, false, false, false, false, false, false, false, false, false] #[true, true, true, true, true, true, true, true, true, true, false, true, true, true, true, true, false, false, false, false, false, false, false, false, false, false, false] rfl rfl rfl rfl (two_of HT_.out (by kernel_rfl)) (by decide) (by decide) (fun K hK => ?_)  (fun K hK => ?_)
            · skip
              refine value_ (by rfl) rfl (v := ?_) (w1 := ?_) ?_ ?_
              rotate_left 2
              · (go_simp; rw [H7.out _ (by repeat (first | exact HBW.out | apply below_drew | apply below_alloc | apply pw_below_drewN))]; exact rfl)
              refine hK.out _ _ (CC.out _ (below_step HB7.out (by repeat (first | exact HBW.out | apply below_drew | apply below_alloc | apply pw_below_drewN)))) (fun hHeld => ?_)
              clear hK K
              refine norm_ (a' := ?_) ?_ ?_
              rotate_left
              · show Act.put _ (some 100) _ = _
                simp only [Act.put, List.setIfInBounds_toArray, List.set_cons_zero, List.set_cons_succ, i64_w, i32_w]
                rfl
              refine one_ (i := 15) (N := (some 105)) #[true, true, true, true, true, true, true, true, true, true, true, true, true, true, true, true, false, false, false, false, false, false, false, false, false, false, false] rfl rfl (one_of HT_.out (by kernel_rfl)) (by decide) (fun K hK => ?_)
              refine value_ (by rfl) rfl (v := ?_) (w1 := ?_) ?_ ?_
              rotate_left 2
              · (go_simp; rw [HST.out _ (below_step HB7.out (by repeat (first | exact HBW.out | apply below_drew | apply below_alloc | apply pw_below_drewN)))]; exact rfl)
              refine hK.out _ _ (CC.out _ (below_step HB7.out (by repeat (first | exact HBW.out | apply below_drew | apply below_alloc | apply pw_below_drewN)))) (fun hHeld => ?_)
              clear hK K
              refine norm_ (a' := ?_) ?_ ?_
              rotate_left
              · show Act.put _ (some 105) _ = _
                simp only [Act.put, List.setIfInBounds_toArray, List.set_cons_zero, List.set_cons_succ, i64_w, i32_w]
                rfl
              refine one_ (i := 16) (N := (some 106)) #[true, true, true, true, true, true, true, true, true, true, true, true, true, true, true, true, true, false, false, false, false, false, false, false, false, false, false] rfl rfl (one_of HT_.out (by kernel_rfl)) (by decide) (fun K hK => ?_)
              refine value_ (by rfl) rfl (v := ?_) (w1 := ?_) ?_ ?_
              rotate_left 2
              · (go_simp; first | (with_reducible rfl) | (constructor <;> with_reducible rfl) | exact rfl)
              refine hK.out _ _ (CC.out _ (below_step HB7.out (by repeat (first | exact HBW.out | apply below_drew | apply below_alloc | apply pw_below_drewN)))) (fun hHeld => ?_)
              clear hK K
              refine norm_ (a' := ?_) ?_ ?_
              rotate_left
              · show Act.put _ (some 106) _ = _
                simp only [Act.put, List.setIfInBounds_toArray, List.set_cons_zero, List.set_cons_succ, i64_w, i32_w]
                rfl
              refine take_ (i := 17) (N := (some 107)) (v := ?_) (a' := ?_) #[true, true, true, true, true, true, true, true, true, true, true, true, true, true, true, true, true, true, false, false, false, false, false, false, false, false, false] rfl rfl (take_ofW HT_.out HW_.out (by kernel_rfl)) (fun _ _ _ h => h) (Or.inl ⟨by rfl, ?_⟩) hHeld ?_ ?_
              rotate_left
              · rintro w' s0_
                go_simp
                with_reducible rfl
              rotate_left
              · simp only [Act.put, List.setIfInBounds_toArray, List.set_cons_zero, List.set_cons_succ, i64_w, i32_w]
                rfl
              refine take_ (i := 18) (N := (some 108)) (v := ?_) (a' := ?_) #[true, true, true, true, true, true, true, true, true, true, true, true, true, true, true, true, true, true, true, false, false, false, false, false, false, false, false] rfl rfl (take_ofW HT_.out HW_.out (by kernel_rfl)) (fun _ _ _ h => h) (Or.inl ⟨by rfl, ?_⟩) hHeld ?_ ?_
              rotate_left
              · rintro w' s0_
                go_simp
                with_reducible rfl
              rotate_left
              · simp only [Act.put, List.setIfInBounds_toArray, List.set_cons_zero, List.set_cons_succ, i64_w, i32_w]
                rfl
              refine take_ (i := 19) (N := (some 109)) (v := ?_) (a' := ?_) #[true, true, true, true, true, true, true, true, true, true, true, true, true, true, true, true, true, true, true, true, false, false, false, false, false, false, false] rfl rfl (take_ofW HT_.out HW_.out (by kernel_rfl)) (fun _ _ _ h => h) (Or.inl ⟨by rfl, ?_⟩) hHeld ?_ ?_
              rotate_left
              · rintro w' s0_
                go_simp
                with_reducible rfl
              rotate_left
              · simp only [Act.put, List.setIfInBounds_toArray, List.set_cons_zero, List.set_cons_succ, i64_w, i32_w]
                rfl
              refine take_ (i := 20) (N := (some 110)) (v := ?_) (a' := ?_) #[true, true, true, true, true, true, true, true, true, true, true, true, true, true, true, true, true, true, true, true, true, false, false, false, false, false, false] rfl rfl (take_ofW HT_.out HW_.out (by kernel_rfl)) (fun _ _ _ h => h) (Or.inl ⟨by rfl, ?_⟩) hHeld ?_ ?_
              rotate_left
              · rintro w' s0_
                go_simp
                with_reducible rfl
              rotate_left
              · simp only [Act.put, List.setIfInBounds_toArray, List.set_cons_zero, List.set_cons_succ, i64_w, i32_w]
                rfl
              refine take_ (i := 21) (N := (some 111)) (v := ?_) (a' := ?_) #[true, true, true, true, true, true, true, true, true, true, true, true, true, true, true, true, true, true, true, true, true, true, false, false, false, false, false] rfl rfl (take_ofW HT_.out HW_.out (by kernel_rfl)) (fun _ _ _ h => h) (Or.inl ⟨by rfl, ?_⟩) hHeld ?_ ?_
              rotate_left
              · rintro w' s0_
                go_simp
                with_reducible rfl
              rotate_left
              · simp only [Act.put, List.setIfInBounds_toArray, List.set_cons_zero, List.set_cons_succ, i64_w, i32_w]
                rfl
              refine take_ (i := 22) (N := (some 112)) (v := ?_) (a' := ?_) #[true, true, true, true, true, true, true, true, true, true, true, true, true, true, true, true, true, true, true, true, true, true, true, false, false, false, false] rfl rfl (take_ofW HT_.out HW_.out (by kernel_rfl)) (fun _ _ _ h => h) (Or.inl ⟨by rfl, ?_⟩) hHeld ?_ ?_
              rotate_left
              · rintro w' s0_
                go_simp
                with_reducible rfl
              rotate_left
              · simp only [Act.put, List.setIfInBounds_toArray, List.set_cons_zero, List.set_cons_succ, i64_w, i32_w]
                rfl
              refine take_ (i := 23) (N := (some 113)) (v := ?_) (a' := ?_) #[true, true, true, true, true, true, true, true, true, true, true, true, true, true, true, true, true, true, true, true, true, true, true, true, false, false, false] rfl rfl (take_ofW HT_.out HW_.out (by kernel_rfl)) (fun _ _ _ h => h) (Or.inl ⟨by rfl, ?_⟩) hHeld ?_ ?_
              rotate_left
              · rintro w' s0_
                go_simp
                with_reducible rfl
              rotate_left
              · simp only [Act.put, List.setIfInBounds_toArray, List.set_cons_zero, List.set_cons_succ, i64_w, i32_w]
                rfl
              refine one_ (i := 24) (N := (some 114)) #[true, true, true, true, true, true, true, true, true, true, true, true, true, true, true, true, true, true, true, true, true, true, true, true, true, false, false] rfl rfl (one_of HT_.out (by kernel_rfl)) (by decide) (fun K hK => ?_)
              refine goes_ Try.func15 (by kernel_rfl) rfl #[.pointer (some ⟨P, 0, none⟩), .slice Ab m cb] (by rfl) rfl rfl (by first | rfl | (simp only [List.map_toArray, List.map_cons, List.map_nil]; try rfl)) ?_
              (with_reducible refine (pl_sent P w.heap.size bm v (items l0 k) _ (HP7.out.below (by repeat (first | exact HBW.out | apply below_drew | apply below_alloc | apply pw_below_drewN))) Ab m cb xs (Kd.C_below HCB.out (below_step HB7.out (by repeat (first | exact HBW.out | apply below_drew | apply below_alloc | apply pw_below_drewN)))) HML.out).mono ?_)
              rintro e_ w_ ⟨rfl, hb⟩
              rw [HSS.out, HSE.out]
              have HBn := Aside0.mk (below_step (by repeat (first | exact HBW.out | apply below_drew | apply below_alloc | apply pw_below_drewN)) hb)
              clear HBW hb
              have HBW := HBn
              clear HBn
              refine ⟨_, rfl, ?_⟩
              refine hK.out _ _ (CC.out _ (below_step HB7.out (by repeat (first | exact HBW.out | apply below_drew | apply below_alloc | apply pw_below_drewN)))) (fun hHeld => ?_)
              clear hK K
              refine norm_ (a' := ?_) ?_ ?_
              rotate_left
              · show Act.put _ (some 114) _ = _
                simp only [Act.put, List.setIfInBounds_toArray, List.set_cons_zero, List.set_cons_succ, i64_w, i32_w]
                rfl
              refine take_ (i := 25) (N := (some 115)) (v := ?_) (a' := ?_) #[true, true, true, true, true, true, true, true, true, true, true, true, true, true, true, true, true, true, true, true, true, true, true, true, true, true, false] rfl rfl (take_ofW HT_.out HW_.out (by kernel_rfl)) (fun _ _ _ h => h) (Or.inl ⟨by rfl, ?_⟩) hHeld ?_ ?_
              rotate_left
              · rintro w' s0_
                go_simp
                with_reducible rfl
              rotate_left
              · simp only [Act.put, List.setIfInBounds_toArray, List.set_cons_zero, List.set_cons_succ, i64_w, i32_w]
                rfl
              refine take_ (i := 26) (N := (some 116)) (v := ?_) (a' := ?_) #[true, true, true, true, true, true, true, true, true, true, true, true, true, true, true, true, true, true, true, true, true, true, true, true, true, true, true] rfl rfl (take_ofW HT_.out HW_.out (by kernel_rfl)) (fun _ _ _ h => h) (Or.inl ⟨by rfl, ?_⟩) hHeld ?_ ?_
              rotate_left
              · rintro w' s0_
                go_simp
                with_reducible rfl
              rotate_left
              · simp only [Act.put, List.setIfInBounds_toArray, List.set_cons_zero, List.set_cons_succ, i64_w, i32_w]
                rfl
              refine done_ (done_of HT_.out (by kernel_rfl)) ?_
              have hPn := HP7.out.below (by repeat (first | exact HBW.out | apply below_drew | apply below_alloc | apply pw_below_drewN))
              have hBn := below_step HB7.out (by repeat (first | exact HBW.out | apply below_drew | apply below_alloc | apply pw_below_drewN))
              go_wp2
              refine ⟨⟨i + 1, hlt2, by simp, ⟨hPn⟩, ⟨hBn⟩⟩, ?_⟩
              simp [intOf]
              omega
            · skip
              refine value_ (by rfl) rfl (v := ?_) (w1 := ?_) ?_ ?_
              rotate_left 2
              · (go_simp; rw [HST.out _ (below_step HB7.out (by repeat (first | exact HBW.out | apply below_drew | apply below_alloc | apply pw_below_drewN)))]; exact rfl)
              refine hK.out _ _ (CC.out _ (below_step HB7.out (by repeat (first | exact HBW.out | apply below_drew | apply below_alloc | apply pw_below_drewN)))) (fun hHeld => ?_)
              clear hK K
              refine norm_ (a' := ?_) ?_ ?_
              rotate_left
              · show Act.put _ (some 105) _ = _
                simp only [Act.put, List.setIfInBounds_toArray, List.set_cons_zero, List.set_cons_succ, i64_w, i32_w]
                rfl
              refine one_ (i := 10) (N := (some 100)) #[true, true, true, true, true, true, true, true, true, true, true, true, true, true, true, true, false, false, false, false, false, false, false, false, false, false, false] rfl rfl (one_of HT_.out (by kernel_rfl)) (by decide) (fun K hK => ?_)
              refine value_ (by rfl) rfl (v := ?_) (w1 := ?_) ?_ ?_
              rotate_left 2
              · (go_simp; rw [H7.out _ (by repeat (first | exact HBW.out | apply below_drew | apply below_alloc | apply pw_below_drewN))]; exact rfl)
              refine hK.out _ _ (CC.out _ (below_step HB7.out (by repeat (first | exact HBW.out | apply below_drew | apply below_alloc | apply pw_below_drewN)))) (fun hHeld => ?_)
              clear hK K
              refine norm_ (a' := ?_) ?_ ?_
              rotate_left
              · show Act.put _ (some 100) _ = _
                simp only [Act.put, List.setIfInBounds_toArray, List.set_cons_zero, List.set_cons_succ, i64_w, i32_w]
                rfl
              refine one_ (i := 16) (N := (some 106)) #[true, true, true, true, true, true, true, true, true, true, true, true, true, true, true, true, true, false, false, false, false, false, false, false, false, false, false] rfl rfl (one_of HT_.out (by kernel_rfl)) (by decide) (fun K hK => ?_)
              refine value_ (by rfl) rfl (v := ?_) (w1 := ?_) ?_ ?_
              rotate_left 2
              · (go_simp; first | (with_reducible rfl) | (constructor <;> with_reducible rfl) | exact rfl)
              refine hK.out _ _ (CC.out _ (below_step HB7.out (by repeat (first | exact HBW.out | apply below_drew | apply below_alloc | apply pw_below_drewN)))) (fun hHeld => ?_)
              clear hK K
              refine norm_ (a' := ?_) ?_ ?_
              rotate_left
              · show Act.put _ (some 106) _ = _
                simp only [Act.put, List.setIfInBounds_toArray, List.set_cons_zero, List.set_cons_succ, i64_w, i32_w]
                rfl
              refine take_ (i := 17) (N := (some 107)) (v := ?_) (a' := ?_) #[true, true, true, true, true, true, true, true, true, true, true, true, true, true, true, true, true, true, false, false, false, false, false, false, false, false, false] rfl rfl (take_ofW HT_.out HW_.out (by kernel_rfl)) (fun _ _ _ h => h) (Or.inl ⟨by rfl, ?_⟩) hHeld ?_ ?_
              rotate_left
              · rintro w' s0_
                go_simp
                with_reducible rfl
              rotate_left
              · simp only [Act.put, List.setIfInBounds_toArray, List.set_cons_zero, List.set_cons_succ, i64_w, i32_w]
                rfl
              refine take_ (i := 18) (N := (some 108)) (v := ?_) (a' := ?_) #[true, true, true, true, true, true, true, true, true, true, true, true, true, true, true, true, true, true, true, false, false, false, false, false, false, false, false] rfl rfl (take_ofW HT_.out HW_.out (by kernel_rfl)) (fun _ _ _ h => h) (Or.inl ⟨by rfl, ?_⟩) hHeld ?_ ?_
              rotate_left
              · rintro w' s0_
                go_simp
                with_reducible rfl
              rotate_left
              · simp only [Act.put, List.setIfInBounds_toArray, List.set_cons_zero, List.set_cons_succ, i64_w, i32_w]
                rfl
              refine take_ (i := 19) (N := (some 109)) (v := ?_) (a' := ?_) #[true, true, true, true, true, true, true, true, true, true, true, true, true, true, true, true, true, true, true, true, false, false, false, false, false, false, false] rfl rfl (take_ofW HT_.out HW_.out (by kernel_rfl)) (fun _ _ _ h => h) (Or.inl ⟨by rfl, ?_⟩) hHeld ?_ ?_
              rotate_left
              · rintro w' s0_
                go_simp
                with_reducible rfl
              rotate_left
              · simp only [Act.put, List.setIfInBounds_toArray, List.set_cons_zero, List.set_cons_succ, i64_w, i32_w]
                rfl
              refine take_ (i := 20) (N := (some 110)) (v := ?_) (a' := ?_) #[true, true, true, true, true, true, true, true, true, true, true, true, true, true, true, true, true, true, true, true, true, false, false, false, false, false, false] rfl rfl (take_ofW HT_.out HW_.out (by kernel_rfl)) (fun _ _ _ h => h) (Or.inl ⟨by rfl, ?_⟩) hHeld ?_ ?_
              rotate_left
              · rintro w' s0_
                go_simp
                with_reducible rfl
              rotate_left
              · simp only [Act.put, List.setIfInBounds_toArray, List.set_cons_zero, List.set_cons_succ, i64_w, i32_w]
                rfl
              refine take_ (i := 21) (N := (some 111)) (v := ?_) (a' := ?_) #[true, true, true, true, true, true, true, true, true, true, true, true, true, true, true, true, true, true, true, true, true, true, false, false, false, false, false] rfl rfl (take_ofW HT_.out HW_.out (by kernel_rfl)) (fun _ _ _ h => h) (Or.inl ⟨by rfl, ?_⟩) hHeld ?_ ?_
              rotate_left
              · rintro w' s0_
                go_simp
                with_reducible rfl
              rotate_left
              · simp only [Act.put, List.setIfInBounds_toArray, List.set_cons_zero, List.set_cons_succ, i64_w, i32_w]
                rfl
              refine take_ (i := 22) (N := (some 112)) (v := ?_) (a' := ?_) #[true, true, true, true, true, true, true, true, true, true, true, true, true, true, true, true, true, true, true, true, true, true, true, false, false, false, false] rfl rfl (take_ofW HT_.out HW_.out (by kernel_rfl)) (fun _ _ _ h => h) (Or.inl ⟨by rfl, ?_⟩) hHeld ?_ ?_
              rotate_left
              · rintro w' s0_
                go_simp
                with_reducible rfl
              rotate_left
              · simp only [Act.put, List.setIfInBounds_toArray, List.set_cons_zero, List.set_cons_succ, i64_w, i32_w]
                rfl
              refine take_ (i := 23) (N := (some 113)) (v := ?_) (a' := ?_) #[true, true, true, true, true, true, true, true, true, true, true, true, true, true, true, true, true, true, true, true, true, true, true, true, false, false, false] rfl rfl (take_ofW HT_.out HW_.out (by kernel_rfl)) (fun _ _ _ h => h) (Or.inl ⟨by rfl, ?_⟩) hHeld ?_ ?_
              rotate_left
              · rintro w' s0_
                go_simp
                with_reducible rfl
              rotate_left
              · simp only [Act.put, List.setIfInBounds_toArray, List.set_cons_zero, List.set_cons_succ, i64_w, i32_w]
                rfl
              refine one_ (i := 24) (N := (some 114)) #[true, true, true, true, true, true, true, true, true, true, true, true, true, true, true, true, true, true, true, true, true, true, true, true, true, false, false] rfl rfl (one_of HT_.out (by kernel_rfl)) (by decide) (fun K hK => ?_)
              refine goes_ Try.func15 (by kernel_rfl) rfl #[.pointer (some ⟨P, 0, none⟩), .slice Ab m cb] (by rfl) rfl rfl (by first | rfl | (simp only [List.map_toArray, List.map_cons, List.map_nil]; try rfl)) ?_
              (with_reducible refine (pl_sent P w.heap.size bm v (items l0 k) _ (HP7.out.below (by repeat (first | exact HBW.out | apply below_drew | apply below_alloc | apply pw_below_drewN))) Ab m cb xs (Kd.C_below HCB.out (below_step HB7.out (by repeat (first | exact HBW.out | apply below_drew | apply below_alloc | apply pw_below_drewN)))) HML.out).mono ?_)
              rintro e_ w_ ⟨rfl, hb⟩
              rw [HSS.out, HSE.out]
              have HBn := Aside0.mk (below_step (by repeat (first | exact HBW.out | apply below_drew | apply below_alloc | apply pw_below_drewN)) hb)
              clear HBW hb
              have HBW := HBn
              clear HBn
              refine ⟨_, rfl, ?_⟩
              refine hK.out _ _ (CC.out _ (below_step HB7.out (by repeat (first | exact HBW.out | apply below_drew | apply below_alloc | apply pw_below_drewN)))) (fun hHeld => ?_)
              clear hK K
              refine norm_ (a' := ?_) ?_ ?_
              rotate_left
              · show Act.put _ (some 114) _ = _
                simp only [Act.put, List.setIfInBounds_toArray, List.set_cons_zero, List.set_cons_succ, i64_w, i32_w]
                rfl
              refine take_ (i := 25) (N := (some 115)) (v := ?_) (a' := ?_) #[true, true, true, true, true, true, true, true, true, true, true, true, true, true, true, true, true, true, true, true, true, true, true, true, true, true, false] rfl rfl (take_ofW HT_.out HW_.out (by kernel_rfl)) (fun _ _ _ h => h) (Or.inl ⟨by rfl, ?_⟩) hHeld ?_ ?_
              rotate_left
              · rintro w' s0_
                go_simp
                with_reducible rfl
              rotate_left
              · simp only [Act.put, List.setIfInBounds_toArray, List.set_cons_zero, List.set_cons_succ, i64_w, i32_w]
                rfl
              refine take_ (i := 26) (N := (some 116)) (v := ?_) (a' := ?_) #[true, true, true, true, true, true, true, true, true, true, true, true, true, true, true, true, true, true, true, true, true, true, true, true, true, true, true] rfl rfl (take_ofW HT_.out HW_.out (by kernel_rfl)) (fun _ _ _ h => h) (Or.inl ⟨by rfl, ?_⟩) hHeld ?_ ?_
              rotate_left
              · rintro w' s0_
                go_simp
                with_reducible rfl
              rotate_left
              · simp only [Act.put, List.setIfInBounds_toArray, List.set_cons_zero, List.set_cons_succ, i64_w, i32_w]
                rfl
              refine done_ (done_of HT_.out (by kernel_rfl)) ?_
              have hPn := HP7.out.below (by repeat (first | exact HBW.out | apply below_drew | apply below_alloc | apply pw_below_drewN))
              have hBn := below_step HB7.out (by repeat (first | exact HBW.out | apply below_drew | apply below_alloc | apply pw_below_drewN))
              go_wp2
              refine ⟨⟨i + 1, hlt2, by simp, ⟨hPn⟩, ⟨hBn⟩⟩, ?_⟩
              simp [intOf]
              omega
          · obtain rfl : i = k := by omega
            go_wp2_with (first
              | (go_at_call 16; (with_reducible refine (pl_len P w.heap.size bm _ _ _ XP.out).mono ?_); rintro e w7 ⟨rfl, rfl⟩; rw [items_len])
              | (go_at_call 13; (with_reducible refine (pl_awake _).mono ?_); rintro e w8 ⟨rfl, hb⟩; have HB8 := Aside0.mk (below_step XW.out hb); clear hb))
            go_ret
            exact ⟨rfl, HB8.out⟩
set_option maxHeartbeats 8000000 in
set_option maxRecDepth 100000 in
theorem PoolKeeps : carillonlaw31_PoolKeeps.Pure := by
  intro A0 c0 l0 w hr0 hc0 hm0 y0 hw0
  obtain ⟨n, hn⟩ : ∃ n, l0.length = n := ⟨_, rfl⟩
  rw [hn] at hr0 y0 ⊢
  refine keeps_main (min n 60) n c0 A0 l0 w hr0 (by omega) hw0 (by omega) (by omega) ?_
  by_cases h : n ≤ 60
  · rw [Nat.min_eq_left h]; left; omega
  · rw [Nat.min_eq_right (by omega)]; right; omega
end Go.Proofs.Ytecaifadcggijaa.Pure
