/- Proved: carillonlaw06.BitsWrites returns true: any numbers of any widths, and bytes, one behind the other, are as the document has them. Conditions: none. -/
import Derived.Test.YtaoiamifofkklaaPBitsx1
import Derived.Test.YtaoiamifofkklaaX1Pure
import Derived.Test.YtaoiamifofkklaaXBitsI
import Derived.Test.YtaoiamifofkklaaXBitsP
namespace Go.Proofs.Ytaoiamifofkklaa.Pure
open Go.RowKit Go.Proofs.Ytaoiamifofkklaa.PBits Go.Proofs.YtaoiamifofkklaaW.PrintWords Go.Proofs.YtaoiamifofkklaaW.PrintLast Go.Proofs.YtaoiamifofkklaaW.PrintMore
set_option linter.unusedVariables false
set_option linter.unusedSimpArgs false
def bw.T8 : Bool × List (List Nat × List Nat) := (true, [([], []), ([], []), ([], []), ([1, 2], [1, 2]), ([3], [3]), ([], []), ([], []), ([5, 6], [5, 6]), ([7], [7]), ([0, 4, 8], [0, 4, 8]), ([], []), ([], []), ([], []), ([11, 12], [11, 12]), ([13], [13]), ([], []), ([], []), ([15, 16], [15, 16]), ([17], [17]), ([10, 14, 18, 9], [10, 14, 18]), ([9, 19], [9, 19]), ([20, 19], [20]), ([21], [21]), ([21], [21]), ([21], [21]), ([23, 24, 21], [21, 23, 24]), ([25, 21], [21, 25]), ([22, 26, 21, 21], [21, 22, 26]), ([21], [21]), ([21], [21]), ([21], [21]), ([29, 30, 21], [21, 29, 30]), ([31, 21], [21, 31]), ([28, 32, 27, 21], [21, 28, 32]), ([27, 33, 21], [21, 27, 33]), ([21, 34], [21, 34]), ([35, 33], [35]), ([36], [36]), ([37, 36, 36], [36, 37]), ([36], [36]), ([39, 36], [36, 39]), ([40, 36], [36, 40]), ([41, 36], [36, 41]), ([42, 36], [36, 42]), ([38, 43, 36], [36, 38, 43]), ([36, 44], [36, 44])])
def bw.B8 : List Nat := [0, 0, 0, 6, 14, 0, 0, 96, 224, 511, 0, 0, 0, 6144, 14336, 0, 0, 98304, 229376, 524287, 1048575, 2097151, 4194303, 4194303, 4194303, 29360127, 62914559, 134217727, 4194303, 4194303, 4194303, 1614807039, 3762290687, 8589934591, 17179869183, 34359738367, 68719476735, 137438953471, 274877906943, 137438953471, 687194767359, 1786706395135, 3985729650687, 8383776161791, 17592186044415, 35184372088831]
theorem bw.tab8 : rtab .any (opsOf Try.f3 8) = bw.T8 := by kernel_rfl
theorem bw.bits8 : waitsOk bw.T8.2 bw.B8 = true := by kernel_rfl
def bx.T10 : Bool × List (List Nat × List Nat) := (true, [([], []), ([0], [0]), ([1], [1]), ([], []), ([3, 1], [3]), ([4], [4]), ([2, 5], [2, 5]), ([6, 4], [6]), ([7, 7], [7]), ([7, 8], [7, 8]), ([9, 8, 0, 1, 2, 3, 4, 5, 6, 7, 8, 9], [9])])
def bx.B10 : List Nat := [0, 1, 3, 0, 11, 27, 63, 127, 255, 511, 1023]
theorem bx.tab10 : rtab .any (opsOf Try.f3 10) = bx.T10 := by kernel_rfl
theorem bx.bits10 : waitsOk bx.T10.2 bx.B10 = true := by kernel_rfl
open Go.Proofs.Ytaoiamifofkklaa.Obj
set_option maxHeartbeats 16000000 in
set_option maxRecDepth 100000 in
theorem writes_main (K : Nat) (A0 : Option Addr) (c0 : Nat) (l0 : List Int) (A1 : Option Addr) (c1 : Nat) (l1 : List Int) (A2 : Option Addr) (c2 : Nat) (l2 : List (List Int)) (w : World) (len0 len1 len2 : Nat)
    (hr0 : Kd.C (Kd.int .u64) w A0 len0 l0) (hw0 : ∀ x ∈ l0, (Lit.int .u64 x).wf = true) (hr1 : Kd.C (Kd.int .i64) w A1 len1 l1) (hw1 : ∀ x ∈ l1, (Lit.int .i64 x).wf = true) (hr2 : Kd.C (Kd.slice 5 (Kd.int .u8)) w A2 len2 l2) (hw2 : ∀ r ∈ l2, r.length * 1 ≤ 140737488351232 ∧ ∀ x ∈ r, (Lit.int .u8 x).wf = true)
    (h0 : len0 ≤ 140737488351232) (h1 : len1 ≤ 140737488351232) (h2 : len2 ≤ 140737488351232) (hK0 : K ≤ len0) (hK1 : K ≤ len1) (hK2 : K ≤ len2) (hK3 : K ≤ 200) (hK : (K = len0) ∨ (K < len0 ∧ K = len1) ∨ (K < len0 ∧ K < len1 ∧ K = len2) ∨ (K < len0 ∧ K < len1 ∧ K < len2 ∧ K = 200)) :
    Calls Try.prog 3 #[.slice A0 len0 c0, .slice A1 len1 c1, .slice A2 len2 c2] w fun e w' => e = .returned (.bool true) ∧ Below w.heap.size w w' := by
  have hu := Try.underlying30
  have HR0 := Aside0.mk hr0
  have HW0 := Aside0.mk hw0
  have HR1 := Aside0.mk hr1
  have HW1 := Aside0.mk hw1
  have HR2 := Aside0.mk hr2
  have HW2 := Aside0.mk hw2
  have HN0 := Aside0.mk hr0.1
  have HN1 := Aside0.mk hr1.1
  have HN2 := Aside0.mk hr2.1
  have HK := Aside0.mk hK
  clear hr0 hw0 hr1 hw1 hr2 hw2 hK
  go_enter Try.func3, Try.ntmps3
  go_wp2_with (go_at_call 14; refine (bt_new _).mono ?_; rintro e w3 ⟨B, rfl, hW, hb, hlo, hhi⟩; have HWR := Aside0.mk hW; have HB3 := Aside0.mk hb; clear hW hb)
  have hB4 : Below w.heap.size w (w3.alloc (.cells #[.slice none 0 0] 30)) := HB3.out.alloc HB3.out.size _
  have hD4 : Duo (w3.alloc (.cells #[.slice none 0 0] 30)) w.heap.size B (.slice none 0 0) [] w.heap.size w3.heap.size (.slice none 0 0) [] :=
    ⟨HWR.out.below (below_alloc (Below.refl _ _) _), ⟨HB3.out.size, blk_new _ _, Kd.R_nil _ _ _ _ _⟩, by omega, fun k hk => by simp [Value.ownBlock] at hk⟩
  have HB4 := Aside0.mk hB4
  have HD4 := Aside0.mk hD4
  obtain ⟨B2, hB2e⟩ : ∃ B2, B2 = w3.heap.size := ⟨_, rfl⟩
  rw [← hB2e] at HD4 hhi ⊢
  clear hB4 hD4 HWR HB3 hB2e
  go_loopw [9] (fun v9 wr => ∃ k : Nat, k ≤ K ∧ v9 = .int .i64 k ∧ ∃ (L : List Bool) (v1 v2 : Value), L.length ≤ 8192 ∧ Aside0 (Duo wr w.heap.size B v1 L w.heap.size B2 v2 L) ∧ Aside0 (Below w.heap.size w wr)) (fun v9 _ => K - (intOf v9).toNat)
  case atStart => exact ⟨0, Nat.zero_le _, rfl, [], _, _, by simp, HD4, HB4⟩
  case round =>
    clear HD4 HB4
    obtain ⟨k, hk, rfl, L, v1, v2, hL, KD, KB⟩ := hrel
    by_cases hlt : k < K
    · obtain ⟨ad0, rfl, hc0⟩ := (Kd.reads_of_C (enc := Value.int .u64) (d := (0 : Int)) (h1 := fun _ => rfl) HR0.out).2.2 (by omega)
      obtain ⟨ad1, rfl, hc1⟩ := (Kd.reads_of_C (enc := Value.int .i64) (d := (0 : Int)) (h1 := fun _ => rfl) HR1.out).2.2 (by omega)
      obtain ⟨ad2, Ab, cb, rfl, hc2, hCb⟩ := rows_at HR2.out k (by omega)
      have hx0 := hc0 k (by omega)
      have hx1 := hc1 k (by omega)
      obtain ⟨n, hn⟩ : ∃ x, l0.getD k 0 = x := ⟨_, rfl⟩
      obtain ⟨x, hx⟩ : ∃ x, l1.getD k 0 = x := ⟨_, rfl⟩
      obtain ⟨xs, hxs⟩ : ∃ x, l2.getD k [] = x := ⟨_, rfl⟩
      have hnb : 0 ≤ n ∧ n < 18446744073709551616 := by
        have hl := HN0.out
        have hm : n ∈ l0 := by rw [← hn, List.getD_eq_getElem?_getD, List.getElem?_eq_getElem (show k < l0.length by omega)]; exact List.getElem_mem _
        exact x_wf64 (HW0.out n hm)
      have hxb : -9223372036854775808 ≤ x ∧ x ≤ 9223372036854775807 := by
        have hl := HN1.out
        have hm : x ∈ l1 := by rw [← hx, List.getD_eq_getElem?_getD, List.getElem?_eq_getElem (show k < l1.length by omega)]; exact List.getElem_mem _
        exact x_wfi (HW1.out x hm)
      have hrow : xs.length ≤ 140737488351232 ∧ IsB xs := by
        have hl := HN2.out
        have hm : xs ∈ l2 := by rw [← hxs, List.getD_eq_getElem?_getD, List.getElem?_eq_getElem (show k < l2.length by omega)]; exact List.getElem_mem _
        have q := HW2.out xs hm
        exact ⟨by omega, IsB.wf q.2⟩
      rw [hn] at hx0
      rw [hx] at hx1
      rw [hxs] at hc2 hCb
      obtain ⟨n, rfl⟩ : ∃ q : Nat, n = (q : Int) := ⟨n.toNat, by omega⟩
      have hn64 : n < 18446744073709551616 := by omega
      have C0 : Aside0 (∀ W, Below w.heap.size w W → W.cell? (ad0.add k) = some (.int .u64 (n : Int))) := ⟨fun W hb => cell_low hx0 hb⟩
      have C1 : Aside0 (∀ W, Below w.heap.size w W → W.cell? (ad1.add k) = some (.int .i64 x)) := ⟨fun W hb => cell_low hx1 hb⟩
      have C2 : Aside0 (∀ W, Below w.heap.size w W → W.cell? (ad2.add k) = some (.slice Ab xs.length cb)) := ⟨fun W hb => cell_low hc2 hb⟩
      have HCB := Aside0.mk hCb
      have HXB := Aside0.mk hxb
      have HROW := Aside0.mk hrow
      have HN64 := Aside0.mk hn64
      have HL := Aside0.mk hL
      have HL1 := Aside0.mk (wL_le (n := n) (x := x) hL)
      have HL2 := Aside0.mk (bL_le (xs := xs) (wL_le (n := n) (x := x) hL))
      have t0 : (k : Int) < (len0 : Int) := by omega
      have t1 : (k : Int) < (len1 : Int) := by omega
      have t2 : (k : Int) < (len2 : Int) := by omega
      have t3 : (k : Int) < 200 := by omega
      clear hc0 hc1 hx0 hx1 hc2 hCb hn hx hxs hnb hxb hrow hn64 hL
      go_wp2
      have HB := KB
      refine start_ (n := 46) (S := fun w' => w'.cell? (ad0.add k) = some (.int .u64 (n : Int)) ∧ w'.cell? (ad1.add k) = some (.int .i64 x) ∧ w'.cell? (ad2.add k) = some (.slice Ab xs.length cb)) (ds := []) #[false, false, false, false, false, false, false, false, false, false, false, false, false, false, false, false, false, false, false, false, false, false, false, false, false, false, false, false, false, false, false, false, false, false, false, false, false, false, false, false, false, false, false, false, false, false] (by kernel_rfl) rfl rfl ⟨C0.out _ (by repeat (first | exact HB.out | apply below_drew | apply below_alloc | apply pw_below_drewN)), C1.out _ (by repeat (first | exact HB.out | apply below_drew | apply below_alloc | apply pw_below_drewN)), C2.out _ (by repeat (first | exact HB.out | apply below_drew | apply below_alloc | apply pw_below_drewN))⟩ (fun hHeld => ?_); refine with_tabW bw.tab8 bw.bits8 (fun HT_ HW_ => ?_)
      refine take_ (i := 0) (N := (some 37)) (v := ?_) (a' := ?_) #[true, false, false, false, false, false, false, false, false, false, false, false, false, false, false, false, false, false, false, false, false, false, false, false, false, false, false, false, false, false, false, false, false, false, false, false, false, false, false, false, false, false, false, false, false, false] rfl rfl (take_ofW HT_.out HW_.out (by kernel_rfl)) (fun _ _ _ h => h) (Or.inl ⟨by rfl, ?_⟩) hHeld ?_ ?_
      rotate_left
      · rintro w' ⟨s0_, s1_, s2_⟩
        go_simp
        with_reducible rfl
      rotate_left
      · simp only [Act.put, List.setIfInBounds_toArray, List.set_cons_zero, List.set_cons_succ, i64_w, i32_w]
        rfl
      refine take_ (i := 1) (N := (some 38)) (v := ?_) (a' := ?_) #[true, true, false, false, false, false, false, false, false, false, false, false, false, false, false, false, false, false, false, false, false, false, false, false, false, false, false, false, false, false, false, false, false, false, false, false, false, false, false, false, false, false, false, false, false, false] rfl rfl (take_ofW HT_.out HW_.out (by kernel_rfl)) (fun _ _ _ h => h) (Or.inl ⟨by rfl, ?_⟩) hHeld ?_ ?_
      rotate_left
      · rintro w' ⟨s0_, s1_, s2_⟩
        go_simp
        with_reducible rfl
      rotate_left
      · simp only [Act.put, List.setIfInBounds_toArray, List.set_cons_zero, List.set_cons_succ, i64_w, i32_w]
        rfl
      refine take_ (i := 2) (N := (some 39)) (v := ?_) (a' := ?_) #[true, true, true, false, false, false, false, false, false, false, false, false, false, false, false, false, false, false, false, false, false, false, false, false, false, false, false, false, false, false, false, false, false, false, false, false, false, false, false, false, false, false, false, false, false, false] rfl rfl (take_ofW HT_.out HW_.out (by kernel_rfl)) (fun _ _ _ h => h) (Or.inl ⟨by rfl, ?_⟩) hHeld ?_ ?_
      rotate_left
      · rintro w' ⟨s0_, s1_, s2_⟩
        go_simp
        with_reducible rfl
      rotate_left
      · simp only [Act.put, List.setIfInBounds_toArray, List.set_cons_zero, List.set_cons_succ, i64_w, i32_w]
        rfl
      refine take_ (i := 3) (N := (some 40)) (v := ?_) (a' := ?_) #[true, true, true, true, false, false, false, false, false, false, false, false, false, false, false, false, false, false, false, false, false, false, false, false, false, false, false, false, false, false, false, false, false, false, false, false, false, false, false, false, false, false, false, false, false, false] rfl rfl (take_ofW HT_.out HW_.out (by kernel_rfl)) (fun _ _ _ h => h) (Or.inl ⟨by rfl, ?_⟩) hHeld ?_ ?_
      rotate_left
      · rintro w' ⟨s0_, s1_, s2_⟩
        go_simp
        with_reducible rfl
      rotate_left
      · simp only [Act.put, List.setIfInBounds_toArray, List.set_cons_zero, List.set_cons_succ, i64_w, i32_w]
        rfl
      refine take_ (i := 4) (N := (some 41)) (v := ?_) (a' := ?_) #[true, true, true, true, true, false, false, false, false, false, false, false, false, false, false, false, false, false, false, false, false, false, false, false, false, false, false, false, false, false, false, false, false, false, false, false, false, false, false, false, false, false, false, false, false, false] rfl rfl (take_ofW HT_.out HW_.out (by kernel_rfl)) (fun _ _ _ h => h) (Or.inl ⟨by rfl, ?_⟩) hHeld ?_ ?_
      rotate_left
      · rintro w' ⟨s0_, s1_, s2_⟩
        go_simp
        with_reducible rfl
      rotate_left
      · simp only [Act.put, List.setIfInBounds_toArray, List.set_cons_zero, List.set_cons_succ, i64_w, i32_w]
        rfl
      refine take_ (i := 5) (N := (some 42)) (v := ?_) (a' := ?_) #[true, true, true, true, true, true, false, false, false, false, false, false, false, false, false, false, false, false, false, false, false, false, false, false, false, false, false, false, false, false, false, false, false, false, false, false, false, false, false, false, false, false, false, false, false, false] rfl rfl (take_ofW HT_.out HW_.out (by kernel_rfl)) (fun _ _ _ h => h) (Or.inl ⟨by rfl, ?_⟩) hHeld ?_ ?_
      rotate_left
      · rintro w' ⟨s0_, s1_, s2_⟩
        go_simp
        with_reducible rfl
      rotate_left
      · simp only [Act.put, List.setIfInBounds_toArray, List.set_cons_zero, List.set_cons_succ, i64_w, i32_w]
        rfl
      refine take_ (i := 6) (N := (some 43)) (v := ?_) (a' := ?_) #[true, true, true, true, true, true, true, false, false, false, false, false, false, false, false, false, false, false, false, false, false, false, false, false, false, false, false, false, false, false, false, false, false, false, false, false, false, false, false, false, false, false, false, false, false, false] rfl rfl (take_ofW HT_.out HW_.out (by kernel_rfl)) (fun _ _ _ h => h) (Or.inl ⟨by rfl, ?_⟩) hHeld ?_ ?_
      rotate_left
      · rintro w' ⟨s0_, s1_, s2_⟩
        go_simp
        with_reducible rfl
      rotate_left
      · simp only [Act.put, List.setIfInBounds_toArray, List.set_cons_zero, List.set_cons_succ, i64_w, i32_w]
        rfl
      refine take_ (i := 7) (N := (some 44)) (v := ?_) (a' := ?_) #[true, true, true, true, true, true, true, true, false, false, false, false, false, false, false, false, false, false, false, false, false, false, false, false, false, false, false, false, false, false, false, false, false, false, false, false, false, false, false, false, false, false, false, false, false, false] rfl rfl (take_ofW HT_.out HW_.out (by kernel_rfl)) (fun _ _ _ h => h) (Or.inl ⟨by rfl, ?_⟩) hHeld ?_ ?_
      rotate_left
      · rintro w' ⟨s0_, s1_, s2_⟩
        go_simp
        with_reducible rfl
      rotate_left
      · simp only [Act.put, List.setIfInBounds_toArray, List.set_cons_zero, List.set_cons_succ, i64_w, i32_w]
        rfl
      refine take_ (i := 8) (N := (some 45)) (v := ?_) (a' := ?_) #[true, true, true, true, true, true, true, true, true, false, false, false, false, false, false, false, false, false, false, false, false, false, false, false, false, false, false, false, false, false, false, false, false, false, false, false, false, false, false, false, false, false, false, false, false, false] rfl rfl (take_ofW HT_.out HW_.out (by kernel_rfl)) (fun _ _ _ h => h) (Or.inl ⟨by rfl, ?_⟩) hHeld ?_ ?_
      rotate_left
      · rintro w' ⟨s0_, s1_, s2_⟩
        go_simp
        with_reducible rfl
      rotate_left
      · simp only [Act.put, List.setIfInBounds_toArray, List.set_cons_zero, List.set_cons_succ, i64_w, i32_w]
        rfl
      refine take_ (i := 10) (N := (some 47)) (v := ?_) (a' := ?_) #[true, true, true, true, true, true, true, true, true, false, true, false, false, false, false, false, false, false, false, false, false, false, false, false, false, false, false, false, false, false, false, false, false, false, false, false, false, false, false, false, false, false, false, false, false, false] rfl rfl (take_ofW HT_.out HW_.out (by kernel_rfl)) (fun _ _ _ h => h) (Or.inl ⟨by rfl, ?_⟩) hHeld ?_ ?_
      rotate_left
      · rintro w' ⟨s0_, s1_, s2_⟩
        go_simp
        with_reducible rfl
      rotate_left
      · simp only [Act.put, List.setIfInBounds_toArray, List.set_cons_zero, List.set_cons_succ, i64_w, i32_w]
        rfl
      refine take_ (i := 11) (N := (some 48)) (v := ?_) (a' := ?_) #[true, true, true, true, true, true, true, true, true, false, true, true, false, false, false, false, false, false, false, false, false, false, false, false, false, false, false, false, false, false, false, false, false, false, false, false, false, false, false, false, false, false, false, false, false, false] rfl rfl (take_ofW HT_.out HW_.out (by kernel_rfl)) (fun _ _ _ h => h) (Or.inl ⟨by rfl, ?_⟩) hHeld ?_ ?_
      rotate_left
      · rintro w' ⟨s0_, s1_, s2_⟩
        go_simp
        with_reducible rfl
      rotate_left
      · simp only [Act.put, List.setIfInBounds_toArray, List.set_cons_zero, List.set_cons_succ, i64_w, i32_w]
        rfl
      refine take_ (i := 12) (N := (some 49)) (v := ?_) (a' := ?_) #[true, true, true, true, true, true, true, true, true, false, true, true, true, false, false, false, false, false, false, false, false, false, false, false, false, false, false, false, false, false, false, false, false, false, false, false, false, false, false, false, false, false, false, false, false, false] rfl rfl (take_ofW HT_.out HW_.out (by kernel_rfl)) (fun _ _ _ h => h) (Or.inl ⟨by rfl, ?_⟩) hHeld ?_ ?_
      rotate_left
      · rintro w' ⟨s0_, s1_, s2_⟩
        go_simp
        with_reducible rfl
      rotate_left
      · simp only [Act.put, List.setIfInBounds_toArray, List.set_cons_zero, List.set_cons_succ, i64_w, i32_w]
        rfl
      refine take_ (i := 13) (N := (some 50)) (v := ?_) (a' := ?_) #[true, true, true, true, true, true, true, true, true, false, true, true, true, true, false, false, false, false, false, false, false, false, false, false, false, false, false, false, false, false, false, false, false, false, false, false, false, false, false, false, false, false, false, false, false, false] rfl rfl (take_ofW HT_.out HW_.out (by kernel_rfl)) (fun _ _ _ h => h) (Or.inl ⟨by rfl, ?_⟩) hHeld ?_ ?_
      rotate_left
      · rintro w' ⟨s0_, s1_, s2_⟩
        go_simp
        with_reducible rfl
      rotate_left
      · simp only [Act.put, List.setIfInBounds_toArray, List.set_cons_zero, List.set_cons_succ, i64_w, i32_w]
        rfl
      refine take_ (i := 14) (N := (some 51)) (v := ?_) (a' := ?_) #[true, true, true, true, true, true, true, true, true, false, true, true, true, true, true, false, false, false, false, false, false, false, false, false, false, false, false, false, false, false, false, false, false, false, false, false, false, false, false, false, false, false, false, false, false, false] rfl rfl (take_ofW HT_.out HW_.out (by kernel_rfl)) (fun _ _ _ h => h) (Or.inl ⟨by rfl, ?_⟩) hHeld ?_ ?_
      rotate_left
      · rintro w' ⟨s0_, s1_, s2_⟩
        go_simp
        with_reducible rfl
      rotate_left
      · simp only [Act.put, List.setIfInBounds_toArray, List.set_cons_zero, List.set_cons_succ, i64_w, i32_w]
        rfl
      refine take_ (i := 15) (N := (some 52)) (v := ?_) (a' := ?_) #[true, true, true, true, true, true, true, true, true, false, true, true, true, true, true, true, false, false, false, false, false, false, false, false, false, false, false, false, false, false, false, false, false, false, false, false, false, false, false, false, false, false, false, false, false, false] rfl rfl (take_ofW HT_.out HW_.out (by kernel_rfl)) (fun _ _ _ h => h) (Or.inl ⟨by rfl, ?_⟩) hHeld ?_ ?_
      rotate_left
      · rintro w' ⟨s0_, s1_, s2_⟩
        go_simp
        with_reducible rfl
      rotate_left
      · simp only [Act.put, List.setIfInBounds_toArray, List.set_cons_zero, List.set_cons_succ, i64_w, i32_w]
        rfl
      refine take_ (i := 16) (N := (some 53)) (v := ?_) (a' := ?_) #[true, true, true, true, true, true, true, true, true, false, true, true, true, true, true, true, true, false, false, false, false, false, false, false, false, false, false, false, false, false, false, false, false, false, false, false, false, false, false, false, false, false, false, false, false, false] rfl rfl (take_ofW HT_.out HW_.out (by kernel_rfl)) (fun _ _ _ h => h) (Or.inl ⟨by rfl, ?_⟩) hHeld ?_ ?_
      rotate_left
      · rintro w' ⟨s0_, s1_, s2_⟩
        go_simp
        with_reducible rfl
      rotate_left
      · simp only [Act.put, List.setIfInBounds_toArray, List.set_cons_zero, List.set_cons_succ, i64_w, i32_w]
        rfl
      refine take_ (i := 17) (N := (some 54)) (v := ?_) (a' := ?_) #[true, true, true, true, true, true, true, true, true, false, true, true, true, true, true, true, true, true, false, false, false, false, false, false, false, false, false, false, false, false, false, false, false, false, false, false, false, false, false, false, false, false, false, false, false, false] rfl rfl (take_ofW HT_.out HW_.out (by kernel_rfl)) (fun _ _ _ h => h) (Or.inl ⟨by rfl, ?_⟩) hHeld ?_ ?_
      rotate_left
      · rintro w' ⟨s0_, s1_, s2_⟩
        go_simp
        with_reducible rfl
      rotate_left
      · simp only [Act.put, List.setIfInBounds_toArray, List.set_cons_zero, List.set_cons_succ, i64_w, i32_w]
        rfl
      refine take_ (i := 18) (N := (some 55)) (v := ?_) (a' := ?_) #[true, true, true, true, true, true, true, true, true, false, true, true, true, true, true, true, true, true, true, false, false, false, false, false, false, false, false, false, false, false, false, false, false, false, false, false, false, false, false, false, false, false, false, false, false, false] rfl rfl (take_ofW HT_.out HW_.out (by kernel_rfl)) (fun _ _ _ h => h) (Or.inl ⟨by rfl, ?_⟩) hHeld ?_ ?_
      rotate_left
      · rintro w' ⟨s0_, s1_, s2_⟩
        go_simp
        with_reducible rfl
      rotate_left
      · simp only [Act.put, List.setIfInBounds_toArray, List.set_cons_zero, List.set_cons_succ, i64_w, i32_w]
        rfl
      refine one_ (i := 9) (N := (some 46)) #[true, true, true, true, true, true, true, true, true, true, true, true, true, true, true, true, true, true, true, false, false, false, false, false, false, false, false, false, false, false, false, false, false, false, false, false, false, false, false, false, false, false, false, false, false, false] rfl rfl (one_of HT_.out (by kernel_rfl)) (by decide) (fun K hK => ?_)
      refine goes_ Try.func15 (by kernel_rfl) rfl #[.pointer (some ⟨B, 0, none⟩), .int .u64 (n : Int), .int .i64 x] (by rfl) rfl rfl (by first | rfl | (simp only [List.map_toArray, List.map_cons, List.map_nil]; try rfl)) ?_
      (with_reducible refine (bt_putF B _ v1 L n x _ (duo_fst (KD.out.below (by repeat (first | exact Below.refl _ _ | apply below_drew | apply pw_below_drewN)))) HN64.out HL.out).mono ?_)
      rintro e_ w_ ⟨v3, rfl, hW, hM, hb⟩
      have D1 := Aside0.mk ((KD.out.below (by repeat (first | exact Below.refl _ _ | apply below_drew | apply pw_below_drewN))).step1 hW hM)
      have HBn := Aside0.mk (Below.trans (by repeat (first | exact HB.out | apply below_drew | apply below_alloc | apply pw_below_drewN)) hb)
      clear hW hM hb HB
      have HB := HBn
      clear HBn
      refine ⟨_, rfl, ?_⟩
      refine hK.out _ _ ⟨C0.out _ (by repeat (first | exact HB.out | apply below_drew | apply below_alloc | apply pw_below_drewN)), C1.out _ (by repeat (first | exact HB.out | apply below_drew | apply below_alloc | apply pw_below_drewN)), C2.out _ (by repeat (first | exact HB.out | apply below_drew | apply below_alloc | apply pw_below_drewN))⟩ (fun hHeld => ?_)
      clear hK K
      refine norm_ (a' := ?_) ?_ ?_
      rotate_left
      · show Act.put _ (some 46) _ = _
        simp only [Act.put, List.setIfInBounds_toArray, List.set_cons_zero, List.set_cons_succ, i64_w, i32_w]
        rfl
      refine one_ (i := 19) (N := (some 56)) #[true, true, true, true, true, true, true, true, true, true, true, true, true, true, true, true, true, true, true, true, false, false, false, false, false, false, false, false, false, false, false, false, false, false, false, false, false, false, false, false, false, false, false, false, false, false] rfl rfl (one_of HT_.out (by kernel_rfl)) (by decide) (fun K hK => ?_)
      refine goes_ Try.func16 (by kernel_rfl) rfl #[.pointer (some ⟨B2, 0, none⟩), .int .u64 (n : Int), .int .i64 x] (by rfl) rfl rfl (by first | rfl | (simp only [List.map_toArray, List.map_cons, List.map_nil]; try rfl)) ?_
      (with_reducible refine (rv_putF B2 _ v2 L n x _ (duo_snd (D1.out.below (by repeat (first | exact Below.refl _ _ | apply below_drew | apply pw_below_drewN)))) HN64.out HL.out HXB.out).mono ?_)
      rintro e_ w_ ⟨v4, rfl, hW, hM, hb⟩
      have D2 := Aside0.mk ((D1.out.below (by repeat (first | exact Below.refl _ _ | apply below_drew | apply pw_below_drewN))).step2 hW hM)
      have HBn := Aside0.mk (Below.trans (by repeat (first | exact HB.out | apply below_drew | apply below_alloc | apply pw_below_drewN)) hb)
      clear hW hM hb HB
      have HB := HBn
      clear HBn
      refine ⟨_, rfl, ?_⟩
      refine hK.out _ _ ⟨C0.out _ (by repeat (first | exact HB.out | apply below_drew | apply below_alloc | apply pw_below_drewN)), C1.out _ (by repeat (first | exact HB.out | apply below_drew | apply below_alloc | apply pw_below_drewN)), C2.out _ (by repeat (first | exact HB.out | apply below_drew | apply below_alloc | apply pw_below_drewN))⟩ (fun hHeld => ?_)
      clear hK K
      refine norm_ (a' := ?_) ?_ ?_
      rotate_left
      · show Act.put _ (some 56) _ = _
        simp only [Act.put, List.setIfInBounds_toArray, List.set_cons_zero, List.set_cons_succ, i64_w, i32_w]
        rfl
      refine take_ (i := 20) (N := (some 57)) (v := ?_) (a' := ?_) #[true, true, true, true, true, true, true, true, true, true, true, true, true, true, true, true, true, true, true, true, true, false, false, false, false, false, false, false, false, false, false, false, false, false, false, false, false, false, false, false, false, false, false, false, false, false] rfl rfl (take_ofW HT_.out HW_.out (by kernel_rfl)) (fun _ _ _ h => h) (Or.inl ⟨by rfl, ?_⟩) hHeld ?_ ?_
      rotate_left
      · rintro w' ⟨s0_, s1_, s2_⟩
        go_simp
        with_reducible rfl
      rotate_left
      · simp only [Act.put, List.setIfInBounds_toArray, List.set_cons_zero, List.set_cons_succ, i64_w, i32_w]
        rfl
      refine take_ (i := 21) (N := (some 58)) (v := ?_) (a' := ?_) #[true, true, true, true, true, true, true, true, true, true, true, true, true, true, true, true, true, true, true, true, true, true, false, false, false, false, false, false, false, false, false, false, false, false, false, false, false, false, false, false, false, false, false, false, false, false] rfl rfl (take_ofW HT_.out HW_.out (by kernel_rfl)) (fun _ _ _ h => h) (Or.inl ⟨by rfl, ?_⟩) hHeld ?_ ?_
      rotate_left
      · rintro w' ⟨s0_, s1_, s2_⟩
        go_simp
        with_reducible rfl
      rotate_left
      · simp only [Act.put, List.setIfInBounds_toArray, List.set_cons_zero, List.set_cons_succ, i64_w, i32_w]
        rfl
      refine take_ (i := 22) (N := (some 59)) (v := ?_) (a' := ?_) #[true, true, true, true, true, true, true, true, true, true, true, true, true, true, true, true, true, true, true, true, true, true, true, false, false, false, false, false, false, false, false, false, false, false, false, false, false, false, false, false, false, false, false, false, false, false] rfl rfl (take_ofW HT_.out HW_.out (by kernel_rfl)) (fun _ _ _ h => h) (Or.inl ⟨by rfl, ?_⟩) hHeld ?_ ?_
      rotate_left
      · rintro w' ⟨s0_, s1_, s2_⟩
        go_simp
        with_reducible rfl
      rotate_left
      · simp only [Act.put, List.setIfInBounds_toArray, List.set_cons_zero, List.set_cons_succ, i64_w, i32_w]
        rfl
      refine take_ (i := 23) (N := (some 60)) (v := ?_) (a' := ?_) #[true, true, true, true, true, true, true, true, true, true, true, true, true, true, true, true, true, true, true, true, true, true, true, true, false, false, false, false, false, false, false, false, false, false, false, false, false, false, false, false, false, false, false, false, false, false] rfl rfl (take_ofW HT_.out HW_.out (by kernel_rfl)) (fun _ _ _ h => h) (Or.inl ⟨by rfl, ?_⟩) hHeld ?_ ?_
      rotate_left
      · rintro w' ⟨s0_, s1_, s2_⟩
        go_simp
        with_reducible rfl
      rotate_left
      · simp only [Act.put, List.setIfInBounds_toArray, List.set_cons_zero, List.set_cons_succ, i64_w, i32_w]
        rfl
      refine take_ (i := 24) (N := (some 61)) (v := ?_) (a' := ?_) #[true, true, true, true, true, true, true, true, true, true, true, true, true, true, true, true, true, true, true, true, true, true, true, true, true, false, false, false, false, false, false, false, false, false, false, false, false, false, false, false, false, false, false, false, false, false] rfl rfl (take_ofW HT_.out HW_.out (by kernel_rfl)) (fun _ _ _ h => h) (Or.inl ⟨by rfl, ?_⟩) hHeld ?_ ?_
      rotate_left
      · rintro w' ⟨s0_, s1_, s2_⟩
        go_simp
        with_reducible rfl
      rotate_left
      · simp only [Act.put, List.setIfInBounds_toArray, List.set_cons_zero, List.set_cons_succ, i64_w, i32_w]
        rfl
      refine take_ (i := 25) (N := (some 62)) (v := ?_) (a' := ?_) #[true, true, true, true, true, true, true, true, true, true, true, true, true, true, true, true, true, true, true, true, true, true, true, true, true, true, false, false, false, false, false, false, false, false, false, false, false, false, false, false, false, false, false, false, false, false] rfl rfl (take_ofW HT_.out HW_.out (by kernel_rfl)) (fun _ _ _ h => h) (Or.inl ⟨by rfl, ?_⟩) hHeld ?_ ?_
      rotate_left
      · rintro w' ⟨s0_, s1_, s2_⟩
        go_simp
        with_reducible rfl
      rotate_left
      · simp only [Act.put, List.setIfInBounds_toArray, List.set_cons_zero, List.set_cons_succ, i64_w, i32_w]
        rfl
      refine take_ (i := 26) (N := (some 63)) (v := ?_) (a' := ?_) #[true, true, true, true, true, true, true, true, true, true, true, true, true, true, true, true, true, true, true, true, true, true, true, true, true, true, true, false, false, false, false, false, false, false, false, false, false, false, false, false, false, false, false, false, false, false] rfl rfl (take_ofW HT_.out HW_.out (by kernel_rfl)) (fun _ _ _ h => h) (Or.inl ⟨by rfl, ?_⟩) hHeld ?_ ?_
      rotate_left
      · rintro w' ⟨s0_, s1_, s2_⟩
        go_simp
        with_reducible rfl
      rotate_left
      · simp only [Act.put, List.setIfInBounds_toArray, List.set_cons_zero, List.set_cons_succ, i64_w, i32_w]
        rfl
      refine take_ (i := 28) (N := (some 65)) (v := ?_) (a' := ?_) #[true, true, true, true, true, true, true, true, true, true, true, true, true, true, true, true, true, true, true, true, true, true, true, true, true, true, true, false, true, false, false, false, false, false, false, false, false, false, false, false, false, false, false, false, false, false] rfl rfl (take_ofW HT_.out HW_.out (by kernel_rfl)) (fun _ _ _ h => h) (Or.inl ⟨by rfl, ?_⟩) hHeld ?_ ?_
      rotate_left
      · rintro w' ⟨s0_, s1_, s2_⟩
        go_simp
        with_reducible rfl
      rotate_left
      · simp only [Act.put, List.setIfInBounds_toArray, List.set_cons_zero, List.set_cons_succ, i64_w, i32_w]
        rfl
      refine take_ (i := 29) (N := (some 66)) (v := ?_) (a' := ?_) #[true, true, true, true, true, true, true, true, true, true, true, true, true, true, true, true, true, true, true, true, true, true, true, true, true, true, true, false, true, true, false, false, false, false, false, false, false, false, false, false, false, false, false, false, false, false] rfl rfl (take_ofW HT_.out HW_.out (by kernel_rfl)) (fun _ _ _ h => h) (Or.inl ⟨by rfl, ?_⟩) hHeld ?_ ?_
      rotate_left
      · rintro w' ⟨s0_, s1_, s2_⟩
        go_simp
        with_reducible rfl
      rotate_left
      · simp only [Act.put, List.setIfInBounds_toArray, List.set_cons_zero, List.set_cons_succ, i64_w, i32_w]
        rfl
      refine take_ (i := 30) (N := (some 67)) (v := ?_) (a' := ?_) #[true, true, true, true, true, true, true, true, true, true, true, true, true, true, true, true, true, true, true, true, true, true, true, true, true, true, true, false, true, true, true, false, false, false, false, false, false, false, false, false, false, false, false, false, false, false] rfl rfl (take_ofW HT_.out HW_.out (by kernel_rfl)) (fun _ _ _ h => h) (Or.inl ⟨by rfl, ?_⟩) hHeld ?_ ?_
      rotate_left
      · rintro w' ⟨s0_, s1_, s2_⟩
        go_simp
        with_reducible rfl
      rotate_left
      · simp only [Act.put, List.setIfInBounds_toArray, List.set_cons_zero, List.set_cons_succ, i64_w, i32_w]
        rfl
      refine take_ (i := 31) (N := (some 68)) (v := ?_) (a' := ?_) #[true, true, true, true, true, true, true, true, true, true, true, true, true, true, true, true, true, true, true, true, true, true, true, true, true, true, true, false, true, true, true, true, false, false, false, false, false, false, false, false, false, false, false, false, false, false] rfl rfl (take_ofW HT_.out HW_.out (by kernel_rfl)) (fun _ _ _ h => h) (Or.inl ⟨by rfl, ?_⟩) hHeld ?_ ?_
      rotate_left
      · rintro w' ⟨s0_, s1_, s2_⟩
        go_simp
        with_reducible rfl
      rotate_left
      · simp only [Act.put, List.setIfInBounds_toArray, List.set_cons_zero, List.set_cons_succ, i64_w, i32_w]
        rfl
      refine take_ (i := 32) (N := (some 69)) (v := ?_) (a' := ?_) #[true, true, true, true, true, true, true, true, true, true, true, true, true, true, true, true, true, true, true, true, true, true, true, true, true, true, true, false, true, true, true, true, true, false, false, false, false, false, false, false, false, false, false, false, false, false] rfl rfl (take_ofW HT_.out HW_.out (by kernel_rfl)) (fun _ _ _ h => h) (Or.inl ⟨by rfl, ?_⟩) hHeld ?_ ?_
      rotate_left
      · rintro w' ⟨s0_, s1_, s2_⟩
        go_simp
        with_reducible rfl
      rotate_left
      · simp only [Act.put, List.setIfInBounds_toArray, List.set_cons_zero, List.set_cons_succ, i64_w, i32_w]
        rfl
      refine one_ (i := 27) (N := (some 64)) #[true, true, true, true, true, true, true, true, true, true, true, true, true, true, true, true, true, true, true, true, true, true, true, true, true, true, true, true, true, true, true, true, true, false, false, false, false, false, false, false, false, false, false, false, false, false] rfl rfl (one_of HT_.out (by kernel_rfl)) (by decide) (fun K hK => ?_)
      refine goes_ Try.func17 (by kernel_rfl) rfl #[.pointer (some ⟨B, 0, none⟩), .slice Ab xs.length cb] (by rfl) rfl rfl (by first | rfl | (simp only [List.map_toArray, List.map_cons, List.map_nil]; try rfl)) ?_
      (with_reducible refine (bt_bytesF B _ v3 (wL L n x) Ab xs.length cb xs _ (duo_fst D2.out) (wr_arg HCB.out HB.out (duo_fst D2.out) (Nat.le_refl _)) HROW.out.2 HL1.out HROW.out.1).mono ?_)
      rintro e_ w_ ⟨v5, rfl, hW, hM, hb⟩
      have D3 := Aside0.mk (D2.out.step1 hW hM)
      have HBn := Aside0.mk (HB.out.trans hb)
      clear hW hM hb HB
      have HB := HBn
      clear HBn
      refine ⟨_, rfl, ?_⟩
      refine hK.out _ _ ⟨C0.out _ (by repeat (first | exact HB.out | apply below_drew | apply below_alloc | apply pw_below_drewN)), C1.out _ (by repeat (first | exact HB.out | apply below_drew | apply below_alloc | apply pw_below_drewN)), C2.out _ (by repeat (first | exact HB.out | apply below_drew | apply below_alloc | apply pw_below_drewN))⟩ (fun hHeld => ?_)
      clear hK K
      refine norm_ (a' := ?_) ?_ ?_
      rotate_left
      · show Act.put _ (some 64) _ = _
        simp only [Act.put, List.setIfInBounds_toArray, List.set_cons_zero, List.set_cons_succ, i64_w, i32_w]
        rfl
      refine one_ (i := 33) (N := (some 70)) #[true, true, true, true, true, true, true, true, true, true, true, true, true, true, true, true, true, true, true, true, true, true, true, true, true, true, true, true, true, true, true, true, true, true, false, false, false, false, false, false, false, false, false, false, false, false] rfl rfl (one_of HT_.out (by kernel_rfl)) (by decide) (fun K hK => ?_)
      refine goes_ Try.func18 (by kernel_rfl) rfl #[.pointer (some ⟨B2, 0, none⟩), .slice Ab xs.length cb] (by rfl) rfl rfl (by first | rfl | (simp only [List.map_toArray, List.map_cons, List.map_nil]; try rfl)) ?_
      (with_reducible refine (rv_bytesF B2 _ v4 (wL L n x) Ab xs.length cb xs _ (duo_snd D3.out) (rv_arg HCB.out HB.out (duo_snd D3.out) (Nat.le_refl _)) HROW.out.2 HL1.out HROW.out.1).mono ?_)
      rintro e_ w_ ⟨v6, rfl, hW, hM, hb⟩
      have hD4 := D3.out.step2 hW hM
      obtain ⟨A5, c5, rfl, _, _⟩ := Kd.R_reads (duo_snd hD4).2.2
      have q5 := (blk_cell (duo_snd hD4).2.1 0).trans rfl
      have D4 := Aside0.mk hD4
      have HBn := Aside0.mk (HB.out.trans hb)
      clear hW hM hb HB hD4
      have HB := HBn
      clear HBn
      refine ⟨_, rfl, ?_⟩
      refine hK.out _ _ ⟨C0.out _ (by repeat (first | exact HB.out | apply below_drew | apply below_alloc | apply pw_below_drewN)), C1.out _ (by repeat (first | exact HB.out | apply below_drew | apply below_alloc | apply pw_below_drewN)), C2.out _ (by repeat (first | exact HB.out | apply below_drew | apply below_alloc | apply pw_below_drewN))⟩ (fun hHeld => ?_)
      clear hK K
      refine norm_ (a' := ?_) ?_ ?_
      rotate_left
      · show Act.put _ (some 70) _ = _
        simp only [Act.put, List.setIfInBounds_toArray, List.set_cons_zero, List.set_cons_succ, i64_w, i32_w]
        rfl
      refine take_ (i := 34) (N := (some 71)) (v := ?_) (a' := ?_) #[true, true, true, true, true, true, true, true, true, true, true, true, true, true, true, true, true, true, true, true, true, true, true, true, true, true, true, true, true, true, true, true, true, true, true, false, false, false, false, false, false, false, false, false, false, false] rfl rfl (take_ofW HT_.out HW_.out (by kernel_rfl)) (fun _ _ _ h => h) (Or.inl ⟨by rfl, ?_⟩) hHeld ?_ ?_
      rotate_left
      · rintro w' ⟨s0_, s1_, s2_⟩
        go_simp
        with_reducible rfl
      rotate_left
      · simp only [Act.put, List.setIfInBounds_toArray, List.set_cons_zero, List.set_cons_succ, i64_w, i32_w]
        rfl
      refine take_ (i := 35) (N := (some 72)) (v := ?_) (a' := ?_) #[true, true, true, true, true, true, true, true, true, true, true, true, true, true, true, true, true, true, true, true, true, true, true, true, true, true, true, true, true, true, true, true, true, true, true, true, false, false, false, false, false, false, false, false, false, false] rfl rfl (take_ofW HT_.out HW_.out (by kernel_rfl)) (fun _ _ _ h => h) (Or.inl ⟨by rfl, ?_⟩) hHeld ?_ ?_
      rotate_left
      · rintro w' ⟨s0_, s1_, s2_⟩
        go_simp
        with_reducible rfl
      rotate_left
      · simp only [Act.put, List.setIfInBounds_toArray, List.set_cons_zero, List.set_cons_succ, i64_w, i32_w]
        rfl
      refine take_ (i := 36) (N := (some 73)) (v := ?_) (a' := ?_) #[true, true, true, true, true, true, true, true, true, true, true, true, true, true, true, true, true, true, true, true, true, true, true, true, true, true, true, true, true, true, true, true, true, true, true, true, true, false, false, false, false, false, false, false, false, false] rfl rfl (take_ofW HT_.out HW_.out (by kernel_rfl)) (fun _ _ _ h => h) (Or.inl ⟨by rfl, ?_⟩) hHeld ?_ ?_
      rotate_left
      · rintro w' ⟨s0_, s1_, s2_⟩
        go_simp
        with_reducible rfl
      rotate_left
      · simp only [Act.put, List.setIfInBounds_toArray, List.set_cons_zero, List.set_cons_succ, i64_w, i32_w]
        rfl
      refine take_ (i := 37) (N := (some 74)) (v := ?_) (a' := ?_) #[true, true, true, true, true, true, true, true, true, true, true, true, true, true, true, true, true, true, true, true, true, true, true, true, true, true, true, true, true, true, true, true, true, true, true, true, true, true, false, false, false, false, false, false, false, false] rfl rfl (take_ofW HT_.out HW_.out (by kernel_rfl)) (fun _ _ _ h => h) (Or.inl ⟨by rfl, ?_⟩) hHeld ?_ ?_
      rotate_left
      · rintro w' ⟨s0_, s1_, s2_⟩
        go_simp
        with_reducible rfl
      rotate_left
      · simp only [Act.put, List.setIfInBounds_toArray, List.set_cons_zero, List.set_cons_succ, i64_w, i32_w]
        rfl
      refine take_ (i := 39) (N := (some 76)) (v := ?_) (a' := ?_) #[true, true, true, true, true, true, true, true, true, true, true, true, true, true, true, true, true, true, true, true, true, true, true, true, true, true, true, true, true, true, true, true, true, true, true, true, true, true, false, true, false, false, false, false, false, false] rfl rfl (take_ofW HT_.out HW_.out (by kernel_rfl)) (fun _ _ _ h => h) (Or.inl ⟨by rfl, ?_⟩) hHeld ?_ ?_
      rotate_left
      · rintro w' ⟨s0_, s1_, s2_⟩
        go_simp
        with_reducible rfl
      rotate_left
      · simp only [Act.put, List.setIfInBounds_toArray, List.set_cons_zero, List.set_cons_succ, i64_w, i32_w]
        rfl
      refine take_ (i := 40) (N := (some 77)) (v := ?_) (a' := ?_) #[true, true, true, true, true, true, true, true, true, true, true, true, true, true, true, true, true, true, true, true, true, true, true, true, true, true, true, true, true, true, true, true, true, true, true, true, true, true, false, true, true, false, false, false, false, false] rfl rfl (take_ofW HT_.out HW_.out (by kernel_rfl)) (fun _ _ _ h => h) (Or.inl ⟨by rfl, ?_⟩) hHeld ?_ ?_
      rotate_left
      · rintro w' ⟨s0_, s1_, s2_⟩
        go_simp
        with_reducible rfl
      rotate_left
      · simp only [Act.put, List.setIfInBounds_toArray, List.set_cons_zero, List.set_cons_succ, i64_w, i32_w]
        rfl
      refine take_ (i := 41) (N := (some 78)) (v := ?_) (a' := ?_) #[true, true, true, true, true, true, true, true, true, true, true, true, true, true, true, true, true, true, true, true, true, true, true, true, true, true, true, true, true, true, true, true, true, true, true, true, true, true, false, true, true, true, false, false, false, false] rfl rfl (take_ofW HT_.out HW_.out (by kernel_rfl)) (fun _ _ _ h => h) (Or.inl ⟨by rfl, ?_⟩) hHeld ?_ ?_
      rotate_left
      · rintro w' ⟨s0_, s1_, s2_⟩
        go_simp
        with_reducible rfl
      rotate_left
      · simp only [Act.put, List.setIfInBounds_toArray, List.set_cons_zero, List.set_cons_succ, i64_w, i32_w]
        rfl
      refine two_ (i := 38) (j := 42) (Ni := (some 75)) (Nj := (some 79)) #[true, true, true, true, true, true, true, true, true, true, true, true, true, true, true, true, true, true, true, true, true, true, true, true, true, true, true, true, true, true, true, true, true, true, true, true, true, true, true, true, true, true, false, false, false, false] #[true, true, true, true, true, true, true, true, true, true, true, true, true, true, true, true, true, true, true, true, true, true, true, true, true, true, true, true, true, true, true, true, true, true, true, true, true, true, false, true, true, true, true, false, false, false] rfl rfl rfl rfl (two_of HT_.out (by kernel_rfl)) (by decide) (by decide) (fun K hK => ?_)  (fun K hK => ?_)
      · skip
        refine goes_ Try.func19 (by kernel_rfl) rfl #[.pointer (some ⟨B, 0, none⟩)] (by rfl) rfl rfl (by first | rfl | (simp only [List.map_toArray, List.map_cons, List.map_nil]; try rfl)) ?_
        (with_reducible refine (bt_len B _ v5 (bL (wL L n x) xs) _ (duo_fst D4.out)).mono ?_)
        rintro e_ w_ ⟨rfl, rfl⟩
        refine ⟨_, rfl, ?_⟩
        refine hK.out _ _ ⟨C0.out _ (by repeat (first | exact HB.out | apply below_drew | apply below_alloc | apply pw_below_drewN)), C1.out _ (by repeat (first | exact HB.out | apply below_drew | apply below_alloc | apply pw_below_drewN)), C2.out _ (by repeat (first | exact HB.out | apply below_drew | apply below_alloc | apply pw_below_drewN))⟩ (fun hHeld => ?_)
        clear hK K
        refine norm_ (a' := ?_) ?_ ?_
        rotate_left
        · show Act.put _ (some 75) _ = _
          simp only [Act.put, List.setIfInBounds_toArray, List.set_cons_zero, List.set_cons_succ, i64_w, i32_w]
          rfl
        refine one_ (i := 42) (N := (some 79)) #[true, true, true, true, true, true, true, true, true, true, true, true, true, true, true, true, true, true, true, true, true, true, true, true, true, true, true, true, true, true, true, true, true, true, true, true, true, true, true, true, true, true, true, false, false, false] rfl rfl (one_of HT_.out (by kernel_rfl)) (by decide) (fun K hK => ?_)
        refine value_ (by rfl) rfl (v := ?_) (w1 := ?_) ?_ ?_
        rotate_left 2
        · (go_simp; first | (with_reducible rfl) | (constructor <;> with_reducible rfl))
        refine hK.out _ _ ⟨C0.out _ (by repeat (first | exact HB.out | apply below_drew | apply below_alloc | apply pw_below_drewN)), C1.out _ (by repeat (first | exact HB.out | apply below_drew | apply below_alloc | apply pw_below_drewN)), C2.out _ (by repeat (first | exact HB.out | apply below_drew | apply below_alloc | apply pw_below_drewN))⟩ (fun hHeld => ?_)
        clear hK K
        refine norm_ (a' := ?_) ?_ ?_
        rotate_left
        · show Act.put _ (some 79) _ = _
          simp only [Act.put, List.setIfInBounds_toArray, List.set_cons_zero, List.set_cons_succ, i64_w, i32_w]
          rfl
        refine take_ (i := 43) (N := (some 80)) (v := ?_) (a' := ?_) #[true, true, true, true, true, true, true, true, true, true, true, true, true, true, true, true, true, true, true, true, true, true, true, true, true, true, true, true, true, true, true, true, true, true, true, true, true, true, true, true, true, true, true, true, false, false] rfl rfl (take_ofW HT_.out HW_.out (by kernel_rfl)) (fun _ _ _ h => h) (Or.inl ⟨by rfl, ?_⟩) hHeld ?_ ?_
        rotate_left
        · rintro w' ⟨s0_, s1_, s2_⟩
          go_simp
          with_reducible rfl
        rotate_left
        · simp only [Act.put, List.setIfInBounds_toArray, List.set_cons_zero, List.set_cons_succ, i64_w, i32_w]
          rfl
        refine take_ (i := 44) (N := (some 81)) (v := ?_) (a' := ?_) #[true, true, true, true, true, true, true, true, true, true, true, true, true, true, true, true, true, true, true, true, true, true, true, true, true, true, true, true, true, true, true, true, true, true, true, true, true, true, true, true, true, true, true, true, true, false] rfl rfl (take_ofW HT_.out HW_.out (by kernel_rfl)) (fun _ _ _ h => h) (Or.inl ⟨by rfl, ?_⟩) hHeld ?_ ?_
        rotate_left
        · rintro w' ⟨s0_, s1_, s2_⟩
          go_simp
          with_reducible rfl
        rotate_left
        · simp only [Act.put, List.setIfInBounds_toArray, List.set_cons_zero, List.set_cons_succ, i64_w, i32_w]
          rfl
        refine take_ (i := 45) (N := (some 82)) (v := ?_) (a' := ?_) #[true, true, true, true, true, true, true, true, true, true, true, true, true, true, true, true, true, true, true, true, true, true, true, true, true, true, true, true, true, true, true, true, true, true, true, true, true, true, true, true, true, true, true, true, true, true] rfl rfl (take_ofW HT_.out HW_.out (by kernel_rfl)) (fun _ _ _ h => h) (Or.inl ⟨by rfl, ?_⟩) hHeld ?_ ?_
        rotate_left
        · rintro w' ⟨s0_, s1_, s2_⟩
          go_simp
          with_reducible rfl
        rotate_left
        · simp only [Act.put, List.setIfInBounds_toArray, List.set_cons_zero, List.set_cons_succ, i64_w, i32_w]
          rfl
        refine done_ (done_of HT_.out (by kernel_rfl)) ?_
        go_wp2
        go_roundw
        case rel => exact ⟨k + 1, by omega, by simp, _, _, _, HL2.out, D4, HB⟩
        case measure => simp [intOf]; omega
      · skip
        refine value_ (by rfl) rfl (v := ?_) (w1 := ?_) ?_ ?_
        rotate_left 2
        · (go_simp; first | (with_reducible rfl) | (constructor <;> with_reducible rfl))
        refine hK.out _ _ ⟨C0.out _ (by repeat (first | exact HB.out | apply below_drew | apply below_alloc | apply pw_below_drewN)), C1.out _ (by repeat (first | exact HB.out | apply below_drew | apply below_alloc | apply pw_below_drewN)), C2.out _ (by repeat (first | exact HB.out | apply below_drew | apply below_alloc | apply pw_below_drewN))⟩ (fun hHeld => ?_)
        clear hK K
        refine norm_ (a' := ?_) ?_ ?_
        rotate_left
        · show Act.put _ (some 79) _ = _
          simp only [Act.put, List.setIfInBounds_toArray, List.set_cons_zero, List.set_cons_succ, i64_w, i32_w]
          rfl
        refine take_ (i := 43) (N := (some 80)) (v := ?_) (a' := ?_) #[true, true, true, true, true, true, true, true, true, true, true, true, true, true, true, true, true, true, true, true, true, true, true, true, true, true, true, true, true, true, true, true, true, true, true, true, true, true, false, true, true, true, true, true, false, false] rfl rfl (take_ofW HT_.out HW_.out (by kernel_rfl)) (fun _ _ _ h => h) (Or.inl ⟨by rfl, ?_⟩) hHeld ?_ ?_
        rotate_left
        · rintro w' ⟨s0_, s1_, s2_⟩
          go_simp
          with_reducible rfl
        rotate_left
        · simp only [Act.put, List.setIfInBounds_toArray, List.set_cons_zero, List.set_cons_succ, i64_w, i32_w]
          rfl
        refine one_ (i := 38) (N := (some 75)) #[true, true, true, true, true, true, true, true, true, true, true, true, true, true, true, true, true, true, true, true, true, true, true, true, true, true, true, true, true, true, true, true, true, true, true, true, true, true, true, true, true, true, true, true, false, false] rfl rfl (one_of HT_.out (by kernel_rfl)) (by decide) (fun K hK => ?_)
        refine goes_ Try.func19 (by kernel_rfl) rfl #[.pointer (some ⟨B, 0, none⟩)] (by rfl) rfl rfl (by first | rfl | (simp only [List.map_toArray, List.map_cons, List.map_nil]; try rfl)) ?_
        (with_reducible refine (bt_len B _ v5 (bL (wL L n x) xs) _ (duo_fst D4.out)).mono ?_)
        rintro e_ w_ ⟨rfl, rfl⟩
        refine ⟨_, rfl, ?_⟩
        refine hK.out _ _ ⟨C0.out _ (by repeat (first | exact HB.out | apply below_drew | apply below_alloc | apply pw_below_drewN)), C1.out _ (by repeat (first | exact HB.out | apply below_drew | apply below_alloc | apply pw_below_drewN)), C2.out _ (by repeat (first | exact HB.out | apply below_drew | apply below_alloc | apply pw_below_drewN))⟩ (fun hHeld => ?_)
        clear hK K
        refine norm_ (a' := ?_) ?_ ?_
        rotate_left
        · show Act.put _ (some 75) _ = _
          simp only [Act.put, List.setIfInBounds_toArray, List.set_cons_zero, List.set_cons_succ, i64_w, i32_w]
          rfl
        refine take_ (i := 44) (N := (some 81)) (v := ?_) (a' := ?_) #[true, true, true, true, true, true, true, true, true, true, true, true, true, true, true, true, true, true, true, true, true, true, true, true, true, true, true, true, true, true, true, true, true, true, true, true, true, true, true, true, true, true, true, true, true, false] rfl rfl (take_ofW HT_.out HW_.out (by kernel_rfl)) (fun _ _ _ h => h) (Or.inl ⟨by rfl, ?_⟩) hHeld ?_ ?_
        rotate_left
        · rintro w' ⟨s0_, s1_, s2_⟩
          go_simp
          with_reducible rfl
        rotate_left
        · simp only [Act.put, List.setIfInBounds_toArray, List.set_cons_zero, List.set_cons_succ, i64_w, i32_w]
          rfl
        refine take_ (i := 45) (N := (some 82)) (v := ?_) (a' := ?_) #[true, true, true, true, true, true, true, true, true, true, true, true, true, true, true, true, true, true, true, true, true, true, true, true, true, true, true, true, true, true, true, true, true, true, true, true, true, true, true, true, true, true, true, true, true, true] rfl rfl (take_ofW HT_.out HW_.out (by kernel_rfl)) (fun _ _ _ h => h) (Or.inl ⟨by rfl, ?_⟩) hHeld ?_ ?_
        rotate_left
        · rintro w' ⟨s0_, s1_, s2_⟩
          go_simp
          with_reducible rfl
        rotate_left
        · simp only [Act.put, List.setIfInBounds_toArray, List.set_cons_zero, List.set_cons_succ, i64_w, i32_w]
          rfl
        refine done_ (done_of HT_.out (by kernel_rfl)) ?_
        go_wp2
        go_roundw
        case rel => exact ⟨k + 1, by omega, by simp, _, _, _, HL2.out, D4, HB⟩
        case measure => simp [intOf]; omega
    · have hkK : k = K := by omega
      subst hkK
      have HL := Aside0.mk hL
      have HLE : Aside0 (L.length ≤ 100000) := ⟨by omega⟩
      clear hL
      rcases HK.out with hk0 | ⟨hk0, hk1⟩ | ⟨hk0, hk1, hk2⟩ | ⟨hk0, hk1, hk2, hk3⟩
      · subst hk0
        clear HK
        go_wp2
        have HB := KB
        refine start_ (n := 11) (S := fun w' => True) (ds := []) #[false, false, false, false, false, false, false, false, false, false, false] (by kernel_rfl) rfl rfl trivial (fun hHeld => ?_); refine with_tabW bx.tab10 bx.bits10 (fun HT_ HW_ => ?_)
        refine take_ (i := 0) (N := (some 83)) (v := ?_) (a' := ?_) #[true, false, false, false, false, false, false, false, false, false, false] rfl rfl (take_ofW HT_.out HW_.out (by kernel_rfl)) (fun _ _ _ h => h) (Or.inl ⟨by rfl, ?_⟩) hHeld ?_ ?_
        rotate_left
        · rintro w' _
          go_simp
          with_reducible rfl
        rotate_left
        · simp only [Act.put, List.setIfInBounds_toArray, List.set_cons_zero, List.set_cons_succ, i64_w, i32_w]
          rfl
        refine take_ (i := 3) (N := (some 86)) (v := ?_) (a' := ?_) #[true, false, false, true, false, false, false, false, false, false, false] rfl rfl (take_ofW HT_.out HW_.out (by kernel_rfl)) (fun _ _ _ h => h) (Or.inl ⟨by rfl, ?_⟩) hHeld ?_ ?_
        rotate_left
        · rintro w' _
          go_simp
          with_reducible rfl
        rotate_left
        · simp only [Act.put, List.setIfInBounds_toArray, List.set_cons_zero, List.set_cons_succ, i64_w, i32_w]
          rfl
        refine one_ (i := 1) (N := (some 84)) #[true, true, false, true, false, false, false, false, false, false, false] rfl rfl (one_of HT_.out (by kernel_rfl)) (by decide) (fun K hK => ?_)
        refine goes_ Try.func20 (by kernel_rfl) rfl #[.pointer (some ⟨B, 0, none⟩)] (by rfl) rfl rfl (by first | rfl | (simp only [List.map_toArray, List.map_cons, List.map_nil]; try rfl)) ?_
        (with_reducible refine (bt_done B _ v1 L _ (duo_fst (KD.out.below (by repeat (first | exact Below.refl _ _ | apply below_drew | apply pw_below_drewN)))) HLE.out).mono ?_)
        rintro e_ w_ ⟨vd, rfl, hR, hb⟩
        have HD1 := Aside0.mk (s_own8 hR)
        have HD := Aside0.mk (Below.refl w_.heap.size w_)
        have D1 := Aside0.mk ((KD.out.below (by repeat (first | exact Below.refl _ _ | apply below_drew | apply pw_below_drewN))).below hb)
        clear hR
        (try (have m_ := Aside0.mk (below_step (by repeat (first | exact HB.out | apply below_drew | apply below_alloc | apply pw_below_drewN)) hb); clear HB; have HB := m_; clear m_))
        clear hb
        refine ⟨_, rfl, ?_⟩
        refine hK.out _ _ trivial (fun hHeld => ?_)
        clear hK K
        refine norm_ (a' := ?_) ?_ ?_
        rotate_left
        · show Act.put _ (some 84) _ = _
          simp only [Act.put, List.setIfInBounds_toArray, List.set_cons_zero, List.set_cons_succ, i64_w, i32_w]
          rfl
        refine two_ (i := 2) (j := 4) (Ni := (some 85)) (Nj := (some 87)) #[true, true, true, true, false, false, false, false, false, false, false] #[true, true, false, true, true, false, false, false, false, false, false] rfl rfl rfl rfl (two_of HT_.out (by kernel_rfl)) (by decide) (by decide) (fun K hK => ?_)  (fun K hK => ?_)
        · skip
          refine value_ (by rfl) rfl (v := ?_) (w1 := ?_) ?_ ?_
          rotate_left 2
          · (go_simp; rw [HD1.out] <;> first | rfl | (repeat (first | exact HD.out | apply below_drew | apply below_alloc | apply pw_below_drewN)))
          refine hK.out _ _ trivial (fun hHeld => ?_)
          clear hK K
          refine norm_ (a' := ?_) ?_ ?_
          rotate_left
          · show Act.put _ (some 85) _ = _
            simp only [Act.put, List.setIfInBounds_toArray, List.set_cons_zero, List.set_cons_succ, i64_w, i32_w]
            rfl
          refine one_ (i := 4) (N := (some 87)) #[true, true, true, true, true, false, false, false, false, false, false] rfl rfl (one_of HT_.out (by kernel_rfl)) (by decide) (fun K hK => ?_)
          refine goes_ Try.func21 (by kernel_rfl) rfl #[.pointer (some ⟨B2, 0, none⟩)] (by rfl) rfl rfl (by first | rfl | (simp only [List.map_toArray, List.map_cons, List.map_nil]; try rfl)) ?_
          (with_reducible refine (rv_done B2 _ v2 L _ (duo_snd (D1.out.below (by repeat (first | exact Below.refl _ _ | apply below_drew | apply pw_below_drewN)))) HL.out).mono ?_)
          rintro e_ w_ ⟨ve, rfl, hR, hb⟩
          have HE1 := Aside0.mk (s_own8 hR)
          (try (have m_ := Aside0.mk (below_step (by repeat (first | exact HD.out | apply below_drew | apply below_alloc | apply pw_below_drewN)) hb); clear HD; have HD := m_; clear m_))
          (try (have m_ := Aside0.mk (below_step (by repeat (first | exact HB.out | apply below_drew | apply below_alloc | apply pw_below_drewN)) hb); clear HB; have HB := m_; clear m_))
          clear hb
          have HE := Aside0.mk (Below.refl w_.heap.size w_)
          clear hR
          refine ⟨_, rfl, ?_⟩
          refine hK.out _ _ trivial (fun hHeld => ?_)
          clear hK K
          refine norm_ (a' := ?_) ?_ ?_
          rotate_left
          · show Act.put _ (some 87) _ = _
            simp only [Act.put, List.setIfInBounds_toArray, List.set_cons_zero, List.set_cons_succ, i64_w, i32_w]
            rfl
          refine one_ (i := 5) (N := (some 88)) #[true, true, true, true, true, true, false, false, false, false, false] rfl rfl (one_of HT_.out (by kernel_rfl)) (by decide) (fun K hK => ?_)
          refine value_ (by rfl) rfl (v := ?_) (w1 := ?_) ?_ ?_
          rotate_left 2
          · (go_simp; rw [HE1.out] <;> first | rfl | (repeat (first | exact HE.out | apply below_drew | apply below_alloc | apply pw_below_drewN)))
          refine hK.out _ _ trivial (fun hHeld => ?_)
          clear hK K
          refine norm_ (a' := ?_) ?_ ?_
          rotate_left
          · show Act.put _ (some 88) _ = _
            simp only [Act.put, List.setIfInBounds_toArray, List.set_cons_zero, List.set_cons_succ, i64_w, i32_w]
            rfl
          refine take_ (i := 6) (N := (some 89)) (v := ?_) (a' := ?_) #[true, true, true, true, true, true, true, false, false, false, false] rfl rfl (take_ofW HT_.out HW_.out (by kernel_rfl)) (fun _ _ _ h => h) (Or.inl ⟨by rfl, ?_⟩) hHeld ?_ ?_
          rotate_left
          · rintro w' _
            go_simp
            with_reducible rfl
          rotate_left
          · simp only [Act.put, List.setIfInBounds_toArray, List.set_cons_zero, List.set_cons_succ, i64_w, i32_w]
            rfl
          refine take_ (i := 7) (N := (some 90)) (v := ?_) (a' := ?_) #[true, true, true, true, true, true, true, true, false, false, false] rfl rfl (take_ofW HT_.out HW_.out (by kernel_rfl)) (fun _ _ _ h => h) (Or.inl ⟨by rfl, ?_⟩) hHeld ?_ ?_
          rotate_left
          · rintro w' _
            go_simp
            with_reducible rfl
          rotate_left
          · simp only [Act.put, List.setIfInBounds_toArray, List.set_cons_zero, List.set_cons_succ, i64_w, i32_w]
            rfl
          refine one_ (i := 8) (N := (some 91)) #[true, true, true, true, true, true, true, true, true, false, false] rfl rfl (one_of HT_.out (by kernel_rfl)) (by decide) (fun K hK => ?_)
          refine goes_ Try.func22 (by kernel_rfl) rfl #[] (by rfl) rfl rfl (by first | rfl | (simp only [List.map_toArray, List.map_cons, List.map_nil]; try rfl)) ?_
          (with_reducible refine (bt_awake _).mono ?_)
          rintro e_ w_ ⟨rfl, hb⟩
          (try (have m_ := Aside0.mk (below_step (by repeat (first | exact HD.out | apply below_drew | apply below_alloc | apply pw_below_drewN)) hb); clear HD; have HD := m_; clear m_))
          (try (have m_ := Aside0.mk (below_step (by repeat (first | exact HE.out | apply below_drew | apply below_alloc | apply pw_below_drewN)) hb); clear HE; have HE := m_; clear m_))
          (try (have m_ := Aside0.mk (below_step (by repeat (first | exact HB.out | apply below_drew | apply below_alloc | apply pw_below_drewN)) hb); clear HB; have HB := m_; clear m_))
          clear hb
          refine ⟨_, rfl, ?_⟩
          refine hK.out _ _ trivial (fun hHeld => ?_)
          clear hK K
          refine norm_ (a' := ?_) ?_ ?_
          rotate_left
          · show Act.put _ (some 91) _ = _
            simp only [Act.put, List.setIfInBounds_toArray, List.set_cons_zero, List.set_cons_succ, i64_w, i32_w]
            rfl
          refine take_ (i := 9) (N := (some 92)) (v := ?_) (a' := ?_) #[true, true, true, true, true, true, true, true, true, true, false] rfl rfl (take_ofW HT_.out HW_.out (by kernel_rfl)) (fun _ _ _ h => h) (Or.inl ⟨by rfl, ?_⟩) hHeld ?_ ?_
          rotate_left
          · rintro w' _
            go_simp
            with_reducible rfl
          rotate_left
          · simp only [Act.put, List.setIfInBounds_toArray, List.set_cons_zero, List.set_cons_succ, i64_w, i32_w]
            rfl
          refine take_ (i := 10) (N := (some 6)) (v := ?_) (a' := ?_) #[true, true, true, true, true, true, true, true, true, true, true] rfl rfl (take_ofW HT_.out HW_.out (by kernel_rfl)) (fun _ _ _ h => h) (Or.inl ⟨by rfl, ?_⟩) hHeld ?_ ?_
          rotate_left
          · rintro w' _
            go_simp
            with_reducible rfl
          rotate_left
          · simp only [Act.put, List.setIfInBounds_toArray, List.set_cons_zero, List.set_cons_succ, i64_w, i32_w]
            rfl
          refine done_ (done_of HT_.out (by kernel_rfl)) ?_
          go_wp2
          go_ret
          exact ⟨rfl, HB.out⟩
        · skip
          refine goes_ Try.func21 (by kernel_rfl) rfl #[.pointer (some ⟨B2, 0, none⟩)] (by rfl) rfl rfl (by first | rfl | (simp only [List.map_toArray, List.map_cons, List.map_nil]; try rfl)) ?_
          (with_reducible refine (rv_done B2 _ v2 L _ (duo_snd (D1.out.below (by repeat (first | exact Below.refl _ _ | apply below_drew | apply pw_below_drewN)))) HL.out).mono ?_)
          rintro e_ w_ ⟨ve, rfl, hR, hb⟩
          have HE1 := Aside0.mk (s_own8 hR)
          (try (have m_ := Aside0.mk (below_step (by repeat (first | exact HD.out | apply below_drew | apply below_alloc | apply pw_below_drewN)) hb); clear HD; have HD := m_; clear m_))
          (try (have m_ := Aside0.mk (below_step (by repeat (first | exact HB.out | apply below_drew | apply below_alloc | apply pw_below_drewN)) hb); clear HB; have HB := m_; clear m_))
          clear hb
          have HE := Aside0.mk (Below.refl w_.heap.size w_)
          clear hR
          refine ⟨_, rfl, ?_⟩
          refine hK.out _ _ trivial (fun hHeld => ?_)
          clear hK K
          refine norm_ (a' := ?_) ?_ ?_
          rotate_left
          · show Act.put _ (some 87) _ = _
            simp only [Act.put, List.setIfInBounds_toArray, List.set_cons_zero, List.set_cons_succ, i64_w, i32_w]
            rfl
          refine two_ (i := 2) (j := 5) (Ni := (some 85)) (Nj := (some 88)) #[true, true, true, true, true, false, false, false, false, false, false] #[true, true, false, true, true, true, false, false, false, false, false] rfl rfl rfl rfl (two_of HT_.out (by kernel_rfl)) (by decide) (by decide) (fun K hK => ?_)  (fun K hK => ?_)
          · skip
            refine value_ (by rfl) rfl (v := ?_) (w1 := ?_) ?_ ?_
            rotate_left 2
            · (go_simp; rw [HD1.out] <;> first | rfl | (repeat (first | exact HD.out | apply below_drew | apply below_alloc | apply pw_below_drewN)))
            refine hK.out _ _ trivial (fun hHeld => ?_)
            clear hK K
            refine norm_ (a' := ?_) ?_ ?_
            rotate_left
            · show Act.put _ (some 85) _ = _
              simp only [Act.put, List.setIfInBounds_toArray, List.set_cons_zero, List.set_cons_succ, i64_w, i32_w]
              rfl
            refine one_ (i := 5) (N := (some 88)) #[true, true, true, true, true, true, false, false, false, false, false] rfl rfl (one_of HT_.out (by kernel_rfl)) (by decide) (fun K hK => ?_)
            refine value_ (by rfl) rfl (v := ?_) (w1 := ?_) ?_ ?_
            rotate_left 2
            · (go_simp; rw [HE1.out] <;> first | rfl | (repeat (first | exact HE.out | apply below_drew | apply below_alloc | apply pw_below_drewN)))
            refine hK.out _ _ trivial (fun hHeld => ?_)
            clear hK K
            refine norm_ (a' := ?_) ?_ ?_
            rotate_left
            · show Act.put _ (some 88) _ = _
              simp only [Act.put, List.setIfInBounds_toArray, List.set_cons_zero, List.set_cons_succ, i64_w, i32_w]
              rfl
            refine take_ (i := 6) (N := (some 89)) (v := ?_) (a' := ?_) #[true, true, true, true, true, true, true, false, false, false, false] rfl rfl (take_ofW HT_.out HW_.out (by kernel_rfl)) (fun _ _ _ h => h) (Or.inl ⟨by rfl, ?_⟩) hHeld ?_ ?_
            rotate_left
            · rintro w' _
              go_simp
              with_reducible rfl
            rotate_left
            · simp only [Act.put, List.setIfInBounds_toArray, List.set_cons_zero, List.set_cons_succ, i64_w, i32_w]
              rfl
            refine take_ (i := 7) (N := (some 90)) (v := ?_) (a' := ?_) #[true, true, true, true, true, true, true, true, false, false, false] rfl rfl (take_ofW HT_.out HW_.out (by kernel_rfl)) (fun _ _ _ h => h) (Or.inl ⟨by rfl, ?_⟩) hHeld ?_ ?_
            rotate_left
            · rintro w' _
              go_simp
              with_reducible rfl
            rotate_left
            · simp only [Act.put, List.setIfInBounds_toArray, List.set_cons_zero, List.set_cons_succ, i64_w, i32_w]
              rfl
            refine one_ (i := 8) (N := (some 91)) #[true, true, true, true, true, true, true, true, true, false, false] rfl rfl (one_of HT_.out (by kernel_rfl)) (by decide) (fun K hK => ?_)
            refine goes_ Try.func22 (by kernel_rfl) rfl #[] (by rfl) rfl rfl (by first | rfl | (simp only [List.map_toArray, List.map_cons, List.map_nil]; try rfl)) ?_
            (with_reducible refine (bt_awake _).mono ?_)
            rintro e_ w_ ⟨rfl, hb⟩
            (try (have m_ := Aside0.mk (below_step (by repeat (first | exact HD.out | apply below_drew | apply below_alloc | apply pw_below_drewN)) hb); clear HD; have HD := m_; clear m_))
            (try (have m_ := Aside0.mk (below_step (by repeat (first | exact HE.out | apply below_drew | apply below_alloc | apply pw_below_drewN)) hb); clear HE; have HE := m_; clear m_))
            (try (have m_ := Aside0.mk (below_step (by repeat (first | exact HB.out | apply below_drew | apply below_alloc | apply pw_below_drewN)) hb); clear HB; have HB := m_; clear m_))
            clear hb
            refine ⟨_, rfl, ?_⟩
            refine hK.out _ _ trivial (fun hHeld => ?_)
            clear hK K
            refine norm_ (a' := ?_) ?_ ?_
            rotate_left
            · show Act.put _ (some 91) _ = _
              simp only [Act.put, List.setIfInBounds_toArray, List.set_cons_zero, List.set_cons_succ, i64_w, i32_w]
              rfl
            refine take_ (i := 9) (N := (some 92)) (v := ?_) (a' := ?_) #[true, true, true, true, true, true, true, true, true, true, false] rfl rfl (take_ofW HT_.out HW_.out (by kernel_rfl)) (fun _ _ _ h => h) (Or.inl ⟨by rfl, ?_⟩) hHeld ?_ ?_
            rotate_left
            · rintro w' _
              go_simp
              with_reducible rfl
            rotate_left
            · simp only [Act.put, List.setIfInBounds_toArray, List.set_cons_zero, List.set_cons_succ, i64_w, i32_w]
              rfl
            refine take_ (i := 10) (N := (some 6)) (v := ?_) (a' := ?_) #[true, true, true, true, true, true, true, true, true, true, true] rfl rfl (take_ofW HT_.out HW_.out (by kernel_rfl)) (fun _ _ _ h => h) (Or.inl ⟨by rfl, ?_⟩) hHeld ?_ ?_
            rotate_left
            · rintro w' _
              go_simp
              with_reducible rfl
            rotate_left
            · simp only [Act.put, List.setIfInBounds_toArray, List.set_cons_zero, List.set_cons_succ, i64_w, i32_w]
              rfl
            refine done_ (done_of HT_.out (by kernel_rfl)) ?_
            go_wp2
            go_ret
            exact ⟨rfl, HB.out⟩
          · skip
            refine value_ (by rfl) rfl (v := ?_) (w1 := ?_) ?_ ?_
            rotate_left 2
            · (go_simp; rw [HE1.out] <;> first | rfl | (repeat (first | exact HE.out | apply below_drew | apply below_alloc | apply pw_below_drewN)))
            refine hK.out _ _ trivial (fun hHeld => ?_)
            clear hK K
            refine norm_ (a' := ?_) ?_ ?_
            rotate_left
            · show Act.put _ (some 88) _ = _
              simp only [Act.put, List.setIfInBounds_toArray, List.set_cons_zero, List.set_cons_succ, i64_w, i32_w]
              rfl
            refine one_ (i := 2) (N := (some 85)) #[true, true, true, true, true, true, false, false, false, false, false] rfl rfl (one_of HT_.out (by kernel_rfl)) (by decide) (fun K hK => ?_)
            refine value_ (by rfl) rfl (v := ?_) (w1 := ?_) ?_ ?_
            rotate_left 2
            · (go_simp; rw [HD1.out] <;> first | rfl | (repeat (first | exact HD.out | apply below_drew | apply below_alloc | apply pw_below_drewN)))
            refine hK.out _ _ trivial (fun hHeld => ?_)
            clear hK K
            refine norm_ (a' := ?_) ?_ ?_
            rotate_left
            · show Act.put _ (some 85) _ = _
              simp only [Act.put, List.setIfInBounds_toArray, List.set_cons_zero, List.set_cons_succ, i64_w, i32_w]
              rfl
            refine take_ (i := 6) (N := (some 89)) (v := ?_) (a' := ?_) #[true, true, true, true, true, true, true, false, false, false, false] rfl rfl (take_ofW HT_.out HW_.out (by kernel_rfl)) (fun _ _ _ h => h) (Or.inl ⟨by rfl, ?_⟩) hHeld ?_ ?_
            rotate_left
            · rintro w' _
              go_simp
              with_reducible rfl
            rotate_left
            · simp only [Act.put, List.setIfInBounds_toArray, List.set_cons_zero, List.set_cons_succ, i64_w, i32_w]
              rfl
            refine take_ (i := 7) (N := (some 90)) (v := ?_) (a' := ?_) #[true, true, true, true, true, true, true, true, false, false, false] rfl rfl (take_ofW HT_.out HW_.out (by kernel_rfl)) (fun _ _ _ h => h) (Or.inl ⟨by rfl, ?_⟩) hHeld ?_ ?_
            rotate_left
            · rintro w' _
              go_simp
              with_reducible rfl
            rotate_left
            · simp only [Act.put, List.setIfInBounds_toArray, List.set_cons_zero, List.set_cons_succ, i64_w, i32_w]
              rfl
            refine one_ (i := 8) (N := (some 91)) #[true, true, true, true, true, true, true, true, true, false, false] rfl rfl (one_of HT_.out (by kernel_rfl)) (by decide) (fun K hK => ?_)
            refine goes_ Try.func22 (by kernel_rfl) rfl #[] (by rfl) rfl rfl (by first | rfl | (simp only [List.map_toArray, List.map_cons, List.map_nil]; try rfl)) ?_
            (with_reducible refine (bt_awake _).mono ?_)
            rintro e_ w_ ⟨rfl, hb⟩
            (try (have m_ := Aside0.mk (below_step (by repeat (first | exact HD.out | apply below_drew | apply below_alloc | apply pw_below_drewN)) hb); clear HD; have HD := m_; clear m_))
            (try (have m_ := Aside0.mk (below_step (by repeat (first | exact HE.out | apply below_drew | apply below_alloc | apply pw_below_drewN)) hb); clear HE; have HE := m_; clear m_))
            (try (have m_ := Aside0.mk (below_step (by repeat (first | exact HB.out | apply below_drew | apply below_alloc | apply pw_below_drewN)) hb); clear HB; have HB := m_; clear m_))
            clear hb
            refine ⟨_, rfl, ?_⟩
            refine hK.out _ _ trivial (fun hHeld => ?_)
            clear hK K
            refine norm_ (a' := ?_) ?_ ?_
            rotate_left
            · show Act.put _ (some 91) _ = _
              simp only [Act.put, List.setIfInBounds_toArray, List.set_cons_zero, List.set_cons_succ, i64_w, i32_w]
              rfl
            refine take_ (i := 9) (N := (some 92)) (v := ?_) (a' := ?_) #[true, true, true, true, true, true, true, true, true, true, false] rfl rfl (take_ofW HT_.out HW_.out (by kernel_rfl)) (fun _ _ _ h => h) (Or.inl ⟨by rfl, ?_⟩) hHeld ?_ ?_
            rotate_left
            · rintro w' _
              go_simp
              with_reducible rfl
            rotate_left
            · simp only [Act.put, List.setIfInBounds_toArray, List.set_cons_zero, List.set_cons_succ, i64_w, i32_w]
              rfl
            refine take_ (i := 10) (N := (some 6)) (v := ?_) (a' := ?_) #[true, true, true, true, true, true, true, true, true, true, true] rfl rfl (take_ofW HT_.out HW_.out (by kernel_rfl)) (fun _ _ _ h => h) (Or.inl ⟨by rfl, ?_⟩) hHeld ?_ ?_
            rotate_left
            · rintro w' _
              go_simp
              with_reducible rfl
            rotate_left
            · simp only [Act.put, List.setIfInBounds_toArray, List.set_cons_zero, List.set_cons_succ, i64_w, i32_w]
              rfl
            refine done_ (done_of HT_.out (by kernel_rfl)) ?_
            go_wp2
            go_ret
            exact ⟨rfl, HB.out⟩
      · subst hk1
        clear HK
        go_wp2
        have HB := KB
        refine start_ (n := 11) (S := fun w' => True) (ds := []) #[false, false, false, false, false, false, false, false, false, false, false] (by kernel_rfl) rfl rfl trivial (fun hHeld => ?_); refine with_tabW bx.tab10 bx.bits10 (fun HT_ HW_ => ?_)
        refine take_ (i := 0) (N := (some 83)) (v := ?_) (a' := ?_) #[true, false, false, false, false, false, false, false, false, false, false] rfl rfl (take_ofW HT_.out HW_.out (by kernel_rfl)) (fun _ _ _ h => h) (Or.inl ⟨by rfl, ?_⟩) hHeld ?_ ?_
        rotate_left
        · rintro w' _
          go_simp
          with_reducible rfl
        rotate_left
        · simp only [Act.put, List.setIfInBounds_toArray, List.set_cons_zero, List.set_cons_succ, i64_w, i32_w]
          rfl
        refine take_ (i := 3) (N := (some 86)) (v := ?_) (a' := ?_) #[true, false, false, true, false, false, false, false, false, false, false] rfl rfl (take_ofW HT_.out HW_.out (by kernel_rfl)) (fun _ _ _ h => h) (Or.inl ⟨by rfl, ?_⟩) hHeld ?_ ?_
        rotate_left
        · rintro w' _
          go_simp
          with_reducible rfl
        rotate_left
        · simp only [Act.put, List.setIfInBounds_toArray, List.set_cons_zero, List.set_cons_succ, i64_w, i32_w]
          rfl
        refine one_ (i := 1) (N := (some 84)) #[true, true, false, true, false, false, false, false, false, false, false] rfl rfl (one_of HT_.out (by kernel_rfl)) (by decide) (fun K hK => ?_)
        refine goes_ Try.func20 (by kernel_rfl) rfl #[.pointer (some ⟨B, 0, none⟩)] (by rfl) rfl rfl (by first | rfl | (simp only [List.map_toArray, List.map_cons, List.map_nil]; try rfl)) ?_
        (with_reducible refine (bt_done B _ v1 L _ (duo_fst (KD.out.below (by repeat (first | exact Below.refl _ _ | apply below_drew | apply pw_below_drewN)))) HLE.out).mono ?_)
        rintro e_ w_ ⟨vd, rfl, hR, hb⟩
        have HD1 := Aside0.mk (s_own8 hR)
        have HD := Aside0.mk (Below.refl w_.heap.size w_)
        have D1 := Aside0.mk ((KD.out.below (by repeat (first | exact Below.refl _ _ | apply below_drew | apply pw_below_drewN))).below hb)
        clear hR
        (try (have m_ := Aside0.mk (below_step (by repeat (first | exact HB.out | apply below_drew | apply below_alloc | apply pw_below_drewN)) hb); clear HB; have HB := m_; clear m_))
        clear hb
        refine ⟨_, rfl, ?_⟩
        refine hK.out _ _ trivial (fun hHeld => ?_)
        clear hK K
        refine norm_ (a' := ?_) ?_ ?_
        rotate_left
        · show Act.put _ (some 84) _ = _
          simp only [Act.put, List.setIfInBounds_toArray, List.set_cons_zero, List.set_cons_succ, i64_w, i32_w]
          rfl
        refine two_ (i := 2) (j := 4) (Ni := (some 85)) (Nj := (some 87)) #[true, true, true, true, false, false, false, false, false, false, false] #[true, true, false, true, true, false, false, false, false, false, false] rfl rfl rfl rfl (two_of HT_.out (by kernel_rfl)) (by decide) (by decide) (fun K hK => ?_)  (fun K hK => ?_)
        · skip
          refine value_ (by rfl) rfl (v := ?_) (w1 := ?_) ?_ ?_
          rotate_left 2
          · (go_simp; rw [HD1.out] <;> first | rfl | (repeat (first | exact HD.out | apply below_drew | apply below_alloc | apply pw_below_drewN)))
          refine hK.out _ _ trivial (fun hHeld => ?_)
          clear hK K
          refine norm_ (a' := ?_) ?_ ?_
          rotate_left
          · show Act.put _ (some 85) _ = _
            simp only [Act.put, List.setIfInBounds_toArray, List.set_cons_zero, List.set_cons_succ, i64_w, i32_w]
            rfl
          refine one_ (i := 4) (N := (some 87)) #[true, true, true, true, true, false, false, false, false, false, false] rfl rfl (one_of HT_.out (by kernel_rfl)) (by decide) (fun K hK => ?_)
          refine goes_ Try.func21 (by kernel_rfl) rfl #[.pointer (some ⟨B2, 0, none⟩)] (by rfl) rfl rfl (by first | rfl | (simp only [List.map_toArray, List.map_cons, List.map_nil]; try rfl)) ?_
          (with_reducible refine (rv_done B2 _ v2 L _ (duo_snd (D1.out.below (by repeat (first | exact Below.refl _ _ | apply below_drew | apply pw_below_drewN)))) HL.out).mono ?_)
          rintro e_ w_ ⟨ve, rfl, hR, hb⟩
          have HE1 := Aside0.mk (s_own8 hR)
          (try (have m_ := Aside0.mk (below_step (by repeat (first | exact HD.out | apply below_drew | apply below_alloc | apply pw_below_drewN)) hb); clear HD; have HD := m_; clear m_))
          (try (have m_ := Aside0.mk (below_step (by repeat (first | exact HB.out | apply below_drew | apply below_alloc | apply pw_below_drewN)) hb); clear HB; have HB := m_; clear m_))
          clear hb
          have HE := Aside0.mk (Below.refl w_.heap.size w_)
          clear hR
          refine ⟨_, rfl, ?_⟩
          refine hK.out _ _ trivial (fun hHeld => ?_)
          clear hK K
          refine norm_ (a' := ?_) ?_ ?_
          rotate_left
          · show Act.put _ (some 87) _ = _
            simp only [Act.put, List.setIfInBounds_toArray, List.set_cons_zero, List.set_cons_succ, i64_w, i32_w]
            rfl
          refine one_ (i := 5) (N := (some 88)) #[true, true, true, true, true, true, false, false, false, false, false] rfl rfl (one_of HT_.out (by kernel_rfl)) (by decide) (fun K hK => ?_)
          refine value_ (by rfl) rfl (v := ?_) (w1 := ?_) ?_ ?_
          rotate_left 2
          · (go_simp; rw [HE1.out] <;> first | rfl | (repeat (first | exact HE.out | apply below_drew | apply below_alloc | apply pw_below_drewN)))
          refine hK.out _ _ trivial (fun hHeld => ?_)
          clear hK K
          refine norm_ (a' := ?_) ?_ ?_
          rotate_left
          · show Act.put _ (some 88) _ = _
            simp only [Act.put, List.setIfInBounds_toArray, List.set_cons_zero, List.set_cons_succ, i64_w, i32_w]
            rfl
          refine take_ (i := 6) (N := (some 89)) (v := ?_) (a' := ?_) #[true, true, true, true, true, true, true, false, false, false, false] rfl rfl (take_ofW HT_.out HW_.out (by kernel_rfl)) (fun _ _ _ h => h) (Or.inl ⟨by rfl, ?_⟩) hHeld ?_ ?_
          rotate_left
          · rintro w' _
            go_simp
            with_reducible rfl
          rotate_left
          · simp only [Act.put, List.setIfInBounds_toArray, List.set_cons_zero, List.set_cons_succ, i64_w, i32_w]
            rfl
          refine take_ (i := 7) (N := (some 90)) (v := ?_) (a' := ?_) #[true, true, true, true, true, true, true, true, false, false, false] rfl rfl (take_ofW HT_.out HW_.out (by kernel_rfl)) (fun _ _ _ h => h) (Or.inl ⟨by rfl, ?_⟩) hHeld ?_ ?_
          rotate_left
          · rintro w' _
            go_simp
            with_reducible rfl
          rotate_left
          · simp only [Act.put, List.setIfInBounds_toArray, List.set_cons_zero, List.set_cons_succ, i64_w, i32_w]
            rfl
          refine one_ (i := 8) (N := (some 91)) #[true, true, true, true, true, true, true, true, true, false, false] rfl rfl (one_of HT_.out (by kernel_rfl)) (by decide) (fun K hK => ?_)
          refine goes_ Try.func22 (by kernel_rfl) rfl #[] (by rfl) rfl rfl (by first | rfl | (simp only [List.map_toArray, List.map_cons, List.map_nil]; try rfl)) ?_
          (with_reducible refine (bt_awake _).mono ?_)
          rintro e_ w_ ⟨rfl, hb⟩
          (try (have m_ := Aside0.mk (below_step (by repeat (first | exact HD.out | apply below_drew | apply below_alloc | apply pw_below_drewN)) hb); clear HD; have HD := m_; clear m_))
          (try (have m_ := Aside0.mk (below_step (by repeat (first | exact HE.out | apply below_drew | apply below_alloc | apply pw_below_drewN)) hb); clear HE; have HE := m_; clear m_))
          (try (have m_ := Aside0.mk (below_step (by repeat (first | exact HB.out | apply below_drew | apply below_alloc | apply pw_below_drewN)) hb); clear HB; have HB := m_; clear m_))
          clear hb
          refine ⟨_, rfl, ?_⟩
          refine hK.out _ _ trivial (fun hHeld => ?_)
          clear hK K
          refine norm_ (a' := ?_) ?_ ?_
          rotate_left
          · show Act.put _ (some 91) _ = _
            simp only [Act.put, List.setIfInBounds_toArray, List.set_cons_zero, List.set_cons_succ, i64_w, i32_w]
            rfl
          refine take_ (i := 9) (N := (some 92)) (v := ?_) (a' := ?_) #[true, true, true, true, true, true, true, true, true, true, false] rfl rfl (take_ofW HT_.out HW_.out (by kernel_rfl)) (fun _ _ _ h => h) (Or.inl ⟨by rfl, ?_⟩) hHeld ?_ ?_
          rotate_left
          · rintro w' _
            go_simp
            with_reducible rfl
          rotate_left
          · simp only [Act.put, List.setIfInBounds_toArray, List.set_cons_zero, List.set_cons_succ, i64_w, i32_w]
            rfl
          refine take_ (i := 10) (N := (some 6)) (v := ?_) (a' := ?_) #[true, true, true, true, true, true, true, true, true, true, true] rfl rfl (take_ofW HT_.out HW_.out (by kernel_rfl)) (fun _ _ _ h => h) (Or.inl ⟨by rfl, ?_⟩) hHeld ?_ ?_
          rotate_left
          · rintro w' _
            go_simp
            with_reducible rfl
          rotate_left
          · simp only [Act.put, List.setIfInBounds_toArray, List.set_cons_zero, List.set_cons_succ, i64_w, i32_w]
            rfl
          refine done_ (done_of HT_.out (by kernel_rfl)) ?_
          go_wp2
          go_ret
          exact ⟨rfl, HB.out⟩
        · skip
          refine goes_ Try.func21 (by kernel_rfl) rfl #[.pointer (some ⟨B2, 0, none⟩)] (by rfl) rfl rfl (by first | rfl | (simp only [List.map_toArray, List.map_cons, List.map_nil]; try rfl)) ?_
          (with_reducible refine (rv_done B2 _ v2 L _ (duo_snd (D1.out.below (by repeat (first | exact Below.refl _ _ | apply below_drew | apply pw_below_drewN)))) HL.out).mono ?_)
          rintro e_ w_ ⟨ve, rfl, hR, hb⟩
          have HE1 := Aside0.mk (s_own8 hR)
          (try (have m_ := Aside0.mk (below_step (by repeat (first | exact HD.out | apply below_drew | apply below_alloc | apply pw_below_drewN)) hb); clear HD; have HD := m_; clear m_))
          (try (have m_ := Aside0.mk (below_step (by repeat (first | exact HB.out | apply below_drew | apply below_alloc | apply pw_below_drewN)) hb); clear HB; have HB := m_; clear m_))
          clear hb
          have HE := Aside0.mk (Below.refl w_.heap.size w_)
          clear hR
          refine ⟨_, rfl, ?_⟩
          refine hK.out _ _ trivial (fun hHeld => ?_)
          clear hK K
          refine norm_ (a' := ?_) ?_ ?_
          rotate_left
          · show Act.put _ (some 87) _ = _
            simp only [Act.put, List.setIfInBounds_toArray, List.set_cons_zero, List.set_cons_succ, i64_w, i32_w]
            rfl
          refine two_ (i := 2) (j := 5) (Ni := (some 85)) (Nj := (some 88)) #[true, true, true, true, true, false, false, false, false, false, false] #[true, true, false, true, true, true, false, false, false, false, false] rfl rfl rfl rfl (two_of HT_.out (by kernel_rfl)) (by decide) (by decide) (fun K hK => ?_)  (fun K hK => ?_)
          · skip
            refine value_ (by rfl) rfl (v := ?_) (w1 := ?_) ?_ ?_
            rotate_left 2
            · (go_simp; rw [HD1.out] <;> first | rfl | (repeat (first | exact HD.out | apply below_drew | apply below_alloc | apply pw_below_drewN)))
            refine hK.out _ _ trivial (fun hHeld => ?_)
            clear hK K
            refine norm_ (a' := ?_) ?_ ?_
            rotate_left
            · show Act.put _ (some 85) _ = _
              simp only [Act.put, List.setIfInBounds_toArray, List.set_cons_zero, List.set_cons_succ, i64_w, i32_w]
              rfl
            refine one_ (i := 5) (N := (some 88)) #[true, true, true, true, true, true, false, false, false, false, false] rfl rfl (one_of HT_.out (by kernel_rfl)) (by decide) (fun K hK => ?_)
            refine value_ (by rfl) rfl (v := ?_) (w1 := ?_) ?_ ?_
            rotate_left 2
            · (go_simp; rw [HE1.out] <;> first | rfl | (repeat (first | exact HE.out | apply below_drew | apply below_alloc | apply pw_below_drewN)))
            refine hK.out _ _ trivial (fun hHeld => ?_)
            clear hK K
            refine norm_ (a' := ?_) ?_ ?_
            rotate_left
            · show Act.put _ (some 88) _ = _
              simp only [Act.put, List.setIfInBounds_toArray, List.set_cons_zero, List.set_cons_succ, i64_w, i32_w]
              rfl
            refine take_ (i := 6) (N := (some 89)) (v := ?_) (a' := ?_) #[true, true, true, true, true, true, true, false, false, false, false] rfl rfl (take_ofW HT_.out HW_.out (by kernel_rfl)) (fun _ _ _ h => h) (Or.inl ⟨by rfl, ?_⟩) hHeld ?_ ?_
            rotate_left
            · rintro w' _
              go_simp
              with_reducible rfl
            rotate_left
            · simp only [Act.put, List.setIfInBounds_toArray, List.set_cons_zero, List.set_cons_succ, i64_w, i32_w]
              rfl
            refine take_ (i := 7) (N := (some 90)) (v := ?_) (a' := ?_) #[true, true, true, true, true, true, true, true, false, false, false] rfl rfl (take_ofW HT_.out HW_.out (by kernel_rfl)) (fun _ _ _ h => h) (Or.inl ⟨by rfl, ?_⟩) hHeld ?_ ?_
            rotate_left
            · rintro w' _
              go_simp
              with_reducible rfl
            rotate_left
            · simp only [Act.put, List.setIfInBounds_toArray, List.set_cons_zero, List.set_cons_succ, i64_w, i32_w]
              rfl
            refine one_ (i := 8) (N := (some 91)) #[true, true, true, true, true, true, true, true, true, false, false] rfl rfl (one_of HT_.out (by kernel_rfl)) (by decide) (fun K hK => ?_)
            refine goes_ Try.func22 (by kernel_rfl) rfl #[] (by rfl) rfl rfl (by first | rfl | (simp only [List.map_toArray, List.map_cons, List.map_nil]; try rfl)) ?_
            (with_reducible refine (bt_awake _).mono ?_)
            rintro e_ w_ ⟨rfl, hb⟩
            (try (have m_ := Aside0.mk (below_step (by repeat (first | exact HD.out | apply below_drew | apply below_alloc | apply pw_below_drewN)) hb); clear HD; have HD := m_; clear m_))
            (try (have m_ := Aside0.mk (below_step (by repeat (first | exact HE.out | apply below_drew | apply below_alloc | apply pw_below_drewN)) hb); clear HE; have HE := m_; clear m_))
            (try (have m_ := Aside0.mk (below_step (by repeat (first | exact HB.out | apply below_drew | apply below_alloc | apply pw_below_drewN)) hb); clear HB; have HB := m_; clear m_))
            clear hb
            refine ⟨_, rfl, ?_⟩
            refine hK.out _ _ trivial (fun hHeld => ?_)
            clear hK K
            refine norm_ (a' := ?_) ?_ ?_
            rotate_left
            · show Act.put _ (some 91) _ = _
              simp only [Act.put, List.setIfInBounds_toArray, List.set_cons_zero, List.set_cons_succ, i64_w, i32_w]
              rfl
            refine take_ (i := 9) (N := (some 92)) (v := ?_) (a' := ?_) #[true, true, true, true, true, true, true, true, true, true, false] rfl rfl (take_ofW HT_.out HW_.out (by kernel_rfl)) (fun _ _ _ h => h) (Or.inl ⟨by rfl, ?_⟩) hHeld ?_ ?_
            rotate_left
            · rintro w' _
              go_simp
              with_reducible rfl
            rotate_left
            · simp only [Act.put, List.setIfInBounds_toArray, List.set_cons_zero, List.set_cons_succ, i64_w, i32_w]
              rfl
            refine take_ (i := 10) (N := (some 6)) (v := ?_) (a' := ?_) #[true, true, true, true, true, true, true, true, true, true, true] rfl rfl (take_ofW HT_.out HW_.out (by kernel_rfl)) (fun _ _ _ h => h) (Or.inl ⟨by rfl, ?_⟩) hHeld ?_ ?_
            rotate_left
            · rintro w' _
              go_simp
              with_reducible rfl
            rotate_left
            · simp only [Act.put, List.setIfInBounds_toArray, List.set_cons_zero, List.set_cons_succ, i64_w, i32_w]
              rfl
            refine done_ (done_of HT_.out (by kernel_rfl)) ?_
            go_wp2
            go_ret
            exact ⟨rfl, HB.out⟩
          · skip
            refine value_ (by rfl) rfl (v := ?_) (w1 := ?_) ?_ ?_
            rotate_left 2
            · (go_simp; rw [HE1.out] <;> first | rfl | (repeat (first | exact HE.out | apply below_drew | apply below_alloc | apply pw_below_drewN)))
            refine hK.out _ _ trivial (fun hHeld => ?_)
            clear hK K
            refine norm_ (a' := ?_) ?_ ?_
            rotate_left
            · show Act.put _ (some 88) _ = _
              simp only [Act.put, List.setIfInBounds_toArray, List.set_cons_zero, List.set_cons_succ, i64_w, i32_w]
              rfl
            refine one_ (i := 2) (N := (some 85)) #[true, true, true, true, true, true, false, false, false, false, false] rfl rfl (one_of HT_.out (by kernel_rfl)) (by decide) (fun K hK => ?_)
            refine value_ (by rfl) rfl (v := ?_) (w1 := ?_) ?_ ?_
            rotate_left 2
            · (go_simp; rw [HD1.out] <;> first | rfl | (repeat (first | exact HD.out | apply below_drew | apply below_alloc | apply pw_below_drewN)))
            refine hK.out _ _ trivial (fun hHeld => ?_)
            clear hK K
            refine norm_ (a' := ?_) ?_ ?_
            rotate_left
            · show Act.put _ (some 85) _ = _
              simp only [Act.put, List.setIfInBounds_toArray, List.set_cons_zero, List.set_cons_succ, i64_w, i32_w]
              rfl
            refine take_ (i := 6) (N := (some 89)) (v := ?_) (a' := ?_) #[true, true, true, true, true, true, true, false, false, false, false] rfl rfl (take_ofW HT_.out HW_.out (by kernel_rfl)) (fun _ _ _ h => h) (Or.inl ⟨by rfl, ?_⟩) hHeld ?_ ?_
            rotate_left
            · rintro w' _
              go_simp
              with_reducible rfl
            rotate_left
            · simp only [Act.put, List.setIfInBounds_toArray, List.set_cons_zero, List.set_cons_succ, i64_w, i32_w]
              rfl
            refine take_ (i := 7) (N := (some 90)) (v := ?_) (a' := ?_) #[true, true, true, true, true, true, true, true, false, false, false] rfl rfl (take_ofW HT_.out HW_.out (by kernel_rfl)) (fun _ _ _ h => h) (Or.inl ⟨by rfl, ?_⟩) hHeld ?_ ?_
            rotate_left
            · rintro w' _
              go_simp
              with_reducible rfl
            rotate_left
            · simp only [Act.put, List.setIfInBounds_toArray, List.set_cons_zero, List.set_cons_succ, i64_w, i32_w]
              rfl
            refine one_ (i := 8) (N := (some 91)) #[true, true, true, true, true, true, true, true, true, false, false] rfl rfl (one_of HT_.out (by kernel_rfl)) (by decide) (fun K hK => ?_)
            refine goes_ Try.func22 (by kernel_rfl) rfl #[] (by rfl) rfl rfl (by first | rfl | (simp only [List.map_toArray, List.map_cons, List.map_nil]; try rfl)) ?_
            (with_reducible refine (bt_awake _).mono ?_)
            rintro e_ w_ ⟨rfl, hb⟩
            (try (have m_ := Aside0.mk (below_step (by repeat (first | exact HD.out | apply below_drew | apply below_alloc | apply pw_below_drewN)) hb); clear HD; have HD := m_; clear m_))
            (try (have m_ := Aside0.mk (below_step (by repeat (first | exact HE.out | apply below_drew | apply below_alloc | apply pw_below_drewN)) hb); clear HE; have HE := m_; clear m_))
            (try (have m_ := Aside0.mk (below_step (by repeat (first | exact HB.out | apply below_drew | apply below_alloc | apply pw_below_drewN)) hb); clear HB; have HB := m_; clear m_))
            clear hb
            refine ⟨_, rfl, ?_⟩
            refine hK.out _ _ trivial (fun hHeld => ?_)
            clear hK K
            refine norm_ (a' := ?_) ?_ ?_
            rotate_left
            · show Act.put _ (some 91) _ = _
              simp only [Act.put, List.setIfInBounds_toArray, List.set_cons_zero, List.set_cons_succ, i64_w, i32_w]
              rfl
            refine take_ (i := 9) (N := (some 92)) (v := ?_) (a' := ?_) #[true, true, true, true, true, true, true, true, true, true, false] rfl rfl (take_ofW HT_.out HW_.out (by kernel_rfl)) (fun _ _ _ h => h) (Or.inl ⟨by rfl, ?_⟩) hHeld ?_ ?_
            rotate_left
            · rintro w' _
              go_simp
              with_reducible rfl
            rotate_left
            · simp only [Act.put, List.setIfInBounds_toArray, List.set_cons_zero, List.set_cons_succ, i64_w, i32_w]
              rfl
            refine take_ (i := 10) (N := (some 6)) (v := ?_) (a' := ?_) #[true, true, true, true, true, true, true, true, true, true, true] rfl rfl (take_ofW HT_.out HW_.out (by kernel_rfl)) (fun _ _ _ h => h) (Or.inl ⟨by rfl, ?_⟩) hHeld ?_ ?_
            rotate_left
            · rintro w' _
              go_simp
              with_reducible rfl
            rotate_left
            · simp only [Act.put, List.setIfInBounds_toArray, List.set_cons_zero, List.set_cons_succ, i64_w, i32_w]
              rfl
            refine done_ (done_of HT_.out (by kernel_rfl)) ?_
            go_wp2
            go_ret
            exact ⟨rfl, HB.out⟩
      · subst hk2
        clear HK
        go_wp2
        have HB := KB
        refine start_ (n := 11) (S := fun w' => True) (ds := []) #[false, false, false, false, false, false, false, false, false, false, false] (by kernel_rfl) rfl rfl trivial (fun hHeld => ?_); refine with_tabW bx.tab10 bx.bits10 (fun HT_ HW_ => ?_)
        refine take_ (i := 0) (N := (some 83)) (v := ?_) (a' := ?_) #[true, false, false, false, false, false, false, false, false, false, false] rfl rfl (take_ofW HT_.out HW_.out (by kernel_rfl)) (fun _ _ _ h => h) (Or.inl ⟨by rfl, ?_⟩) hHeld ?_ ?_
        rotate_left
        · rintro w' _
          go_simp
          with_reducible rfl
        rotate_left
        · simp only [Act.put, List.setIfInBounds_toArray, List.set_cons_zero, List.set_cons_succ, i64_w, i32_w]
          rfl
        refine take_ (i := 3) (N := (some 86)) (v := ?_) (a' := ?_) #[true, false, false, true, false, false, false, false, false, false, false] rfl rfl (take_ofW HT_.out HW_.out (by kernel_rfl)) (fun _ _ _ h => h) (Or.inl ⟨by rfl, ?_⟩) hHeld ?_ ?_
        rotate_left
        · rintro w' _
          go_simp
          with_reducible rfl
        rotate_left
        · simp only [Act.put, List.setIfInBounds_toArray, List.set_cons_zero, List.set_cons_succ, i64_w, i32_w]
          rfl
        refine one_ (i := 1) (N := (some 84)) #[true, true, false, true, false, false, false, false, false, false, false] rfl rfl (one_of HT_.out (by kernel_rfl)) (by decide) (fun K hK => ?_)
        refine goes_ Try.func20 (by kernel_rfl) rfl #[.pointer (some ⟨B, 0, none⟩)] (by rfl) rfl rfl (by first | rfl | (simp only [List.map_toArray, List.map_cons, List.map_nil]; try rfl)) ?_
        (with_reducible refine (bt_done B _ v1 L _ (duo_fst (KD.out.below (by repeat (first | exact Below.refl _ _ | apply below_drew | apply pw_below_drewN)))) HLE.out).mono ?_)
        rintro e_ w_ ⟨vd, rfl, hR, hb⟩
        have HD1 := Aside0.mk (s_own8 hR)
        have HD := Aside0.mk (Below.refl w_.heap.size w_)
        have D1 := Aside0.mk ((KD.out.below (by repeat (first | exact Below.refl _ _ | apply below_drew | apply pw_below_drewN))).below hb)
        clear hR
        (try (have m_ := Aside0.mk (below_step (by repeat (first | exact HB.out | apply below_drew | apply below_alloc | apply pw_below_drewN)) hb); clear HB; have HB := m_; clear m_))
        clear hb
        refine ⟨_, rfl, ?_⟩
        refine hK.out _ _ trivial (fun hHeld => ?_)
        clear hK K
        refine norm_ (a' := ?_) ?_ ?_
        rotate_left
        · show Act.put _ (some 84) _ = _
          simp only [Act.put, List.setIfInBounds_toArray, List.set_cons_zero, List.set_cons_succ, i64_w, i32_w]
          rfl
        refine two_ (i := 2) (j := 4) (Ni := (some 85)) (Nj := (some 87)) #[true, true, true, true, false, false, false, false, false, false, false] #[true, true, false, true, true, false, false, false, false, false, false] rfl rfl rfl rfl (two_of HT_.out (by kernel_rfl)) (by decide) (by decide) (fun K hK => ?_)  (fun K hK => ?_)
        · skip
          refine value_ (by rfl) rfl (v := ?_) (w1 := ?_) ?_ ?_
          rotate_left 2
          · (go_simp; rw [HD1.out] <;> first | rfl | (repeat (first | exact HD.out | apply below_drew | apply below_alloc | apply pw_below_drewN)))
          refine hK.out _ _ trivial (fun hHeld => ?_)
          clear hK K
          refine norm_ (a' := ?_) ?_ ?_
          rotate_left
          · show Act.put _ (some 85) _ = _
            simp only [Act.put, List.setIfInBounds_toArray, List.set_cons_zero, List.set_cons_succ, i64_w, i32_w]
            rfl
          refine one_ (i := 4) (N := (some 87)) #[true, true, true, true, true, false, false, false, false, false, false] rfl rfl (one_of HT_.out (by kernel_rfl)) (by decide) (fun K hK => ?_)
          refine goes_ Try.func21 (by kernel_rfl) rfl #[.pointer (some ⟨B2, 0, none⟩)] (by rfl) rfl rfl (by first | rfl | (simp only [List.map_toArray, List.map_cons, List.map_nil]; try rfl)) ?_
          (with_reducible refine (rv_done B2 _ v2 L _ (duo_snd (D1.out.below (by repeat (first | exact Below.refl _ _ | apply below_drew | apply pw_below_drewN)))) HL.out).mono ?_)
          rintro e_ w_ ⟨ve, rfl, hR, hb⟩
          have HE1 := Aside0.mk (s_own8 hR)
          (try (have m_ := Aside0.mk (below_step (by repeat (first | exact HD.out | apply below_drew | apply below_alloc | apply pw_below_drewN)) hb); clear HD; have HD := m_; clear m_))
          (try (have m_ := Aside0.mk (below_step (by repeat (first | exact HB.out | apply below_drew | apply below_alloc | apply pw_below_drewN)) hb); clear HB; have HB := m_; clear m_))
          clear hb
          have HE := Aside0.mk (Below.refl w_.heap.size w_)
          clear hR
          refine ⟨_, rfl, ?_⟩
          refine hK.out _ _ trivial (fun hHeld => ?_)
          clear hK K
          refine norm_ (a' := ?_) ?_ ?_
          rotate_left
          · show Act.put _ (some 87) _ = _
            simp only [Act.put, List.setIfInBounds_toArray, List.set_cons_zero, List.set_cons_succ, i64_w, i32_w]
            rfl
          refine one_ (i := 5) (N := (some 88)) #[true, true, true, true, true, true, false, false, false, false, false] rfl rfl (one_of HT_.out (by kernel_rfl)) (by decide) (fun K hK => ?_)
          refine value_ (by rfl) rfl (v := ?_) (w1 := ?_) ?_ ?_
          rotate_left 2
          · (go_simp; rw [HE1.out] <;> first | rfl | (repeat (first | exact HE.out | apply below_drew | apply below_alloc | apply pw_below_drewN)))
          refine hK.out _ _ trivial (fun hHeld => ?_)
          clear hK K
          refine norm_ (a' := ?_) ?_ ?_
          rotate_left
          · show Act.put _ (some 88) _ = _
            simp only [Act.put, List.setIfInBounds_toArray, List.set_cons_zero, List.set_cons_succ, i64_w, i32_w]
            rfl
          refine take_ (i := 6) (N := (some 89)) (v := ?_) (a' := ?_) #[true, true, true, true, true, true, true, false, false, false, false] rfl rfl (take_ofW HT_.out HW_.out (by kernel_rfl)) (fun _ _ _ h => h) (Or.inl ⟨by rfl, ?_⟩) hHeld ?_ ?_
          rotate_left
          · rintro w' _
            go_simp
            with_reducible rfl
          rotate_left
          · simp only [Act.put, List.setIfInBounds_toArray, List.set_cons_zero, List.set_cons_succ, i64_w, i32_w]
            rfl
          refine take_ (i := 7) (N := (some 90)) (v := ?_) (a' := ?_) #[true, true, true, true, true, true, true, true, false, false, false] rfl rfl (take_ofW HT_.out HW_.out (by kernel_rfl)) (fun _ _ _ h => h) (Or.inl ⟨by rfl, ?_⟩) hHeld ?_ ?_
          rotate_left
          · rintro w' _
            go_simp
            with_reducible rfl
          rotate_left
          · simp only [Act.put, List.setIfInBounds_toArray, List.set_cons_zero, List.set_cons_succ, i64_w, i32_w]
            rfl
          refine one_ (i := 8) (N := (some 91)) #[true, true, true, true, true, true, true, true, true, false, false] rfl rfl (one_of HT_.out (by kernel_rfl)) (by decide) (fun K hK => ?_)
          refine goes_ Try.func22 (by kernel_rfl) rfl #[] (by rfl) rfl rfl (by first | rfl | (simp only [List.map_toArray, List.map_cons, List.map_nil]; try rfl)) ?_
          (with_reducible refine (bt_awake _).mono ?_)
          rintro e_ w_ ⟨rfl, hb⟩
          (try (have m_ := Aside0.mk (below_step (by repeat (first | exact HD.out | apply below_drew | apply below_alloc | apply pw_below_drewN)) hb); clear HD; have HD := m_; clear m_))
          (try (have m_ := Aside0.mk (below_step (by repeat (first | exact HE.out | apply below_drew | apply below_alloc | apply pw_below_drewN)) hb); clear HE; have HE := m_; clear m_))
          (try (have m_ := Aside0.mk (below_step (by repeat (first | exact HB.out | apply below_drew | apply below_alloc | apply pw_below_drewN)) hb); clear HB; have HB := m_; clear m_))
          clear hb
          refine ⟨_, rfl, ?_⟩
          refine hK.out _ _ trivial (fun hHeld => ?_)
          clear hK K
          refine norm_ (a' := ?_) ?_ ?_
          rotate_left
          · show Act.put _ (some 91) _ = _
            simp only [Act.put, List.setIfInBounds_toArray, List.set_cons_zero, List.set_cons_succ, i64_w, i32_w]
            rfl
          refine take_ (i := 9) (N := (some 92)) (v := ?_) (a' := ?_) #[true, true, true, true, true, true, true, true, true, true, false] rfl rfl (take_ofW HT_.out HW_.out (by kernel_rfl)) (fun _ _ _ h => h) (Or.inl ⟨by rfl, ?_⟩) hHeld ?_ ?_
          rotate_left
          · rintro w' _
            go_simp
            with_reducible rfl
          rotate_left
          · simp only [Act.put, List.setIfInBounds_toArray, List.set_cons_zero, List.set_cons_succ, i64_w, i32_w]
            rfl
          refine take_ (i := 10) (N := (some 6)) (v := ?_) (a' := ?_) #[true, true, true, true, true, true, true, true, true, true, true] rfl rfl (take_ofW HT_.out HW_.out (by kernel_rfl)) (fun _ _ _ h => h) (Or.inl ⟨by rfl, ?_⟩) hHeld ?_ ?_
          rotate_left
          · rintro w' _
            go_simp
            with_reducible rfl
          rotate_left
          · simp only [Act.put, List.setIfInBounds_toArray, List.set_cons_zero, List.set_cons_succ, i64_w, i32_w]
            rfl
          refine done_ (done_of HT_.out (by kernel_rfl)) ?_
          go_wp2
          go_ret
          exact ⟨rfl, HB.out⟩
        · skip
          refine goes_ Try.func21 (by kernel_rfl) rfl #[.pointer (some ⟨B2, 0, none⟩)] (by rfl) rfl rfl (by first | rfl | (simp only [List.map_toArray, List.map_cons, List.map_nil]; try rfl)) ?_
          (with_reducible refine (rv_done B2 _ v2 L _ (duo_snd (D1.out.below (by repeat (first | exact Below.refl _ _ | apply below_drew | apply pw_below_drewN)))) HL.out).mono ?_)
          rintro e_ w_ ⟨ve, rfl, hR, hb⟩
          have HE1 := Aside0.mk (s_own8 hR)
          (try (have m_ := Aside0.mk (below_step (by repeat (first | exact HD.out | apply below_drew | apply below_alloc | apply pw_below_drewN)) hb); clear HD; have HD := m_; clear m_))
          (try (have m_ := Aside0.mk (below_step (by repeat (first | exact HB.out | apply below_drew | apply below_alloc | apply pw_below_drewN)) hb); clear HB; have HB := m_; clear m_))
          clear hb
          have HE := Aside0.mk (Below.refl w_.heap.size w_)
          clear hR
          refine ⟨_, rfl, ?_⟩
          refine hK.out _ _ trivial (fun hHeld => ?_)
          clear hK K
          refine norm_ (a' := ?_) ?_ ?_
          rotate_left
          · show Act.put _ (some 87) _ = _
            simp only [Act.put, List.setIfInBounds_toArray, List.set_cons_zero, List.set_cons_succ, i64_w, i32_w]
            rfl
          refine two_ (i := 2) (j := 5) (Ni := (some 85)) (Nj := (some 88)) #[true, true, true, true, true, false, false, false, false, false, false] #[true, true, false, true, true, true, false, false, false, false, false] rfl rfl rfl rfl (two_of HT_.out (by kernel_rfl)) (by decide) (by decide) (fun K hK => ?_)  (fun K hK => ?_)
          · skip
            refine value_ (by rfl) rfl (v := ?_) (w1 := ?_) ?_ ?_
            rotate_left 2
            · (go_simp; rw [HD1.out] <;> first | rfl | (repeat (first | exact HD.out | apply below_drew | apply below_alloc | apply pw_below_drewN)))
            refine hK.out _ _ trivial (fun hHeld => ?_)
            clear hK K
            refine norm_ (a' := ?_) ?_ ?_
            rotate_left
            · show Act.put _ (some 85) _ = _
              simp only [Act.put, List.setIfInBounds_toArray, List.set_cons_zero, List.set_cons_succ, i64_w, i32_w]
              rfl
            refine one_ (i := 5) (N := (some 88)) #[true, true, true, true, true, true, false, false, false, false, false] rfl rfl (one_of HT_.out (by kernel_rfl)) (by decide) (fun K hK => ?_)
            refine value_ (by rfl) rfl (v := ?_) (w1 := ?_) ?_ ?_
            rotate_left 2
            · (go_simp; rw [HE1.out] <;> first | rfl | (repeat (first | exact HE.out | apply below_drew | apply below_alloc | apply pw_below_drewN)))
            refine hK.out _ _ trivial (fun hHeld => ?_)
            clear hK K
            refine norm_ (a' := ?_) ?_ ?_
            rotate_left
            · show Act.put _ (some 88) _ = _
              simp only [Act.put, List.setIfInBounds_toArray, List.set_cons_zero, List.set_cons_succ, i64_w, i32_w]
              rfl
            refine take_ (i := 6) (N := (some 89)) (v := ?_) (a' := ?_) #[true, true, true, true, true, true, true, false, false, false, false] rfl rfl (take_ofW HT_.out HW_.out (by kernel_rfl)) (fun _ _ _ h => h) (Or.inl ⟨by rfl, ?_⟩) hHeld ?_ ?_
            rotate_left
            · rintro w' _
              go_simp
              with_reducible rfl
            rotate_left
            · simp only [Act.put, List.setIfInBounds_toArray, List.set_cons_zero, List.set_cons_succ, i64_w, i32_w]
              rfl
            refine take_ (i := 7) (N := (some 90)) (v := ?_) (a' := ?_) #[true, true, true, true, true, true, true, true, false, false, false] rfl rfl (take_ofW HT_.out HW_.out (by kernel_rfl)) (fun _ _ _ h => h) (Or.inl ⟨by rfl, ?_⟩) hHeld ?_ ?_
            rotate_left
            · rintro w' _
              go_simp
              with_reducible rfl
            rotate_left
            · simp only [Act.put, List.setIfInBounds_toArray, List.set_cons_zero, List.set_cons_succ, i64_w, i32_w]
              rfl
            refine one_ (i := 8) (N := (some 91)) #[true, true, true, true, true, true, true, true, true, false, false] rfl rfl (one_of HT_.out (by kernel_rfl)) (by decide) (fun K hK => ?_)
            refine goes_ Try.func22 (by kernel_rfl) rfl #[] (by rfl) rfl rfl (by first | rfl | (simp only [List.map_toArray, List.map_cons, List.map_nil]; try rfl)) ?_
            (with_reducible refine (bt_awake _).mono ?_)
            rintro e_ w_ ⟨rfl, hb⟩
            (try (have m_ := Aside0.mk (below_step (by repeat (first | exact HD.out | apply below_drew | apply below_alloc | apply pw_below_drewN)) hb); clear HD; have HD := m_; clear m_))
            (try (have m_ := Aside0.mk (below_step (by repeat (first | exact HE.out | apply below_drew | apply below_alloc | apply pw_below_drewN)) hb); clear HE; have HE := m_; clear m_))
            (try (have m_ := Aside0.mk (below_step (by repeat (first | exact HB.out | apply below_drew | apply below_alloc | apply pw_below_drewN)) hb); clear HB; have HB := m_; clear m_))
            clear hb
            refine ⟨_, rfl, ?_⟩
            refine hK.out _ _ trivial (fun hHeld => ?_)
            clear hK K
            refine norm_ (a' := ?_) ?_ ?_
            rotate_left
            · show Act.put _ (some 91) _ = _
              simp only [Act.put, List.setIfInBounds_toArray, List.set_cons_zero, List.set_cons_succ, i64_w, i32_w]
              rfl
            refine take_ (i := 9) (N := (some 92)) (v := ?_) (a' := ?_) #[true, true, true, true, true, true, true, true, true, true, false] rfl rfl (take_ofW HT_.out HW_.out (by kernel_rfl)) (fun _ _ _ h => h) (Or.inl ⟨by rfl, ?_⟩) hHeld ?_ ?_
            rotate_left
            · rintro w' _
              go_simp
              with_reducible rfl
            rotate_left
            · simp only [Act.put, List.setIfInBounds_toArray, List.set_cons_zero, List.set_cons_succ, i64_w, i32_w]
              rfl
            refine take_ (i := 10) (N := (some 6)) (v := ?_) (a' := ?_) #[true, true, true, true, true, true, true, true, true, true, true] rfl rfl (take_ofW HT_.out HW_.out (by kernel_rfl)) (fun _ _ _ h => h) (Or.inl ⟨by rfl, ?_⟩) hHeld ?_ ?_
            rotate_left
            · rintro w' _
              go_simp
              with_reducible rfl
            rotate_left
            · simp only [Act.put, List.setIfInBounds_toArray, List.set_cons_zero, List.set_cons_succ, i64_w, i32_w]
              rfl
            refine done_ (done_of HT_.out (by kernel_rfl)) ?_
            go_wp2
            go_ret
            exact ⟨rfl, HB.out⟩
          · skip
            refine value_ (by rfl) rfl (v := ?_) (w1 := ?_) ?_ ?_
            rotate_left 2
            · (go_simp; rw [HE1.out] <;> first | rfl | (repeat (first | exact HE.out | apply below_drew | apply below_alloc | apply pw_below_drewN)))
            refine hK.out _ _ trivial (fun hHeld => ?_)
            clear hK K
            refine norm_ (a' := ?_) ?_ ?_
            rotate_left
            · show Act.put _ (some 88) _ = _
              simp only [Act.put, List.setIfInBounds_toArray, List.set_cons_zero, List.set_cons_succ, i64_w, i32_w]
              rfl
            refine one_ (i := 2) (N := (some 85)) #[true, true, true, true, true, true, false, false, false, false, false] rfl rfl (one_of HT_.out (by kernel_rfl)) (by decide) (fun K hK => ?_)
            refine value_ (by rfl) rfl (v := ?_) (w1 := ?_) ?_ ?_
            rotate_left 2
            · (go_simp; rw [HD1.out] <;> first | rfl | (repeat (first | exact HD.out | apply below_drew | apply below_alloc | apply pw_below_drewN)))
            refine hK.out _ _ trivial (fun hHeld => ?_)
            clear hK K
            refine norm_ (a' := ?_) ?_ ?_
            rotate_left
            · show Act.put _ (some 85) _ = _
              simp only [Act.put, List.setIfInBounds_toArray, List.set_cons_zero, List.set_cons_succ, i64_w, i32_w]
              rfl
            refine take_ (i := 6) (N := (some 89)) (v := ?_) (a' := ?_) #[true, true, true, true, true, true, true, false, false, false, false] rfl rfl (take_ofW HT_.out HW_.out (by kernel_rfl)) (fun _ _ _ h => h) (Or.inl ⟨by rfl, ?_⟩) hHeld ?_ ?_
            rotate_left
            · rintro w' _
              go_simp
              with_reducible rfl
            rotate_left
            · simp only [Act.put, List.setIfInBounds_toArray, List.set_cons_zero, List.set_cons_succ, i64_w, i32_w]
              rfl
            refine take_ (i := 7) (N := (some 90)) (v := ?_) (a' := ?_) #[true, true, true, true, true, true, true, true, false, false, false] rfl rfl (take_ofW HT_.out HW_.out (by kernel_rfl)) (fun _ _ _ h => h) (Or.inl ⟨by rfl, ?_⟩) hHeld ?_ ?_
            rotate_left
            · rintro w' _
              go_simp
              with_reducible rfl
            rotate_left
            · simp only [Act.put, List.setIfInBounds_toArray, List.set_cons_zero, List.set_cons_succ, i64_w, i32_w]
              rfl
            refine one_ (i := 8) (N := (some 91)) #[true, true, true, true, true, true, true, true, true, false, false] rfl rfl (one_of HT_.out (by kernel_rfl)) (by decide) (fun K hK => ?_)
            refine goes_ Try.func22 (by kernel_rfl) rfl #[] (by rfl) rfl rfl (by first | rfl | (simp only [List.map_toArray, List.map_cons, List.map_nil]; try rfl)) ?_
            (with_reducible refine (bt_awake _).mono ?_)
            rintro e_ w_ ⟨rfl, hb⟩
            (try (have m_ := Aside0.mk (below_step (by repeat (first | exact HD.out | apply below_drew | apply below_alloc | apply pw_below_drewN)) hb); clear HD; have HD := m_; clear m_))
            (try (have m_ := Aside0.mk (below_step (by repeat (first | exact HE.out | apply below_drew | apply below_alloc | apply pw_below_drewN)) hb); clear HE; have HE := m_; clear m_))
            (try (have m_ := Aside0.mk (below_step (by repeat (first | exact HB.out | apply below_drew | apply below_alloc | apply pw_below_drewN)) hb); clear HB; have HB := m_; clear m_))
            clear hb
            refine ⟨_, rfl, ?_⟩
            refine hK.out _ _ trivial (fun hHeld => ?_)
            clear hK K
            refine norm_ (a' := ?_) ?_ ?_
            rotate_left
            · show Act.put _ (some 91) _ = _
              simp only [Act.put, List.setIfInBounds_toArray, List.set_cons_zero, List.set_cons_succ, i64_w, i32_w]
              rfl
            refine take_ (i := 9) (N := (some 92)) (v := ?_) (a' := ?_) #[true, true, true, true, true, true, true, true, true, true, false] rfl rfl (take_ofW HT_.out HW_.out (by kernel_rfl)) (fun _ _ _ h => h) (Or.inl ⟨by rfl, ?_⟩) hHeld ?_ ?_
            rotate_left
            · rintro w' _
              go_simp
              with_reducible rfl
            rotate_left
            · simp only [Act.put, List.setIfInBounds_toArray, List.set_cons_zero, List.set_cons_succ, i64_w, i32_w]
              rfl
            refine take_ (i := 10) (N := (some 6)) (v := ?_) (a' := ?_) #[true, true, true, true, true, true, true, true, true, true, true] rfl rfl (take_ofW HT_.out HW_.out (by kernel_rfl)) (fun _ _ _ h => h) (Or.inl ⟨by rfl, ?_⟩) hHeld ?_ ?_
            rotate_left
            · rintro w' _
              go_simp
              with_reducible rfl
            rotate_left
            · simp only [Act.put, List.setIfInBounds_toArray, List.set_cons_zero, List.set_cons_succ, i64_w, i32_w]
              rfl
            refine done_ (done_of HT_.out (by kernel_rfl)) ?_
            go_wp2
            go_ret
            exact ⟨rfl, HB.out⟩
      · have q0 : ¬ (k : Int) < 200 := by omega
        have q1 : (k : Int) < (len0 : Int) := by omega
        have q2 : (k : Int) < (len1 : Int) := by omega
        have q3 : (k : Int) < (len2 : Int) := by omega
        clear HK hk3
        go_wp2
        have HB := KB
        refine start_ (n := 11) (S := fun w' => True) (ds := []) #[false, false, false, false, false, false, false, false, false, false, false] (by kernel_rfl) rfl rfl trivial (fun hHeld => ?_); refine with_tabW bx.tab10 bx.bits10 (fun HT_ HW_ => ?_)
        refine take_ (i := 0) (N := (some 83)) (v := ?_) (a' := ?_) #[true, false, false, false, false, false, false, false, false, false, false] rfl rfl (take_ofW HT_.out HW_.out (by kernel_rfl)) (fun _ _ _ h => h) (Or.inl ⟨by rfl, ?_⟩) hHeld ?_ ?_
        rotate_left
        · rintro w' _
          go_simp
          with_reducible rfl
        rotate_left
        · simp only [Act.put, List.setIfInBounds_toArray, List.set_cons_zero, List.set_cons_succ, i64_w, i32_w]
          rfl
        refine take_ (i := 3) (N := (some 86)) (v := ?_) (a' := ?_) #[true, false, false, true, false, false, false, false, false, false, false] rfl rfl (take_ofW HT_.out HW_.out (by kernel_rfl)) (fun _ _ _ h => h) (Or.inl ⟨by rfl, ?_⟩) hHeld ?_ ?_
        rotate_left
        · rintro w' _
          go_simp
          with_reducible rfl
        rotate_left
        · simp only [Act.put, List.setIfInBounds_toArray, List.set_cons_zero, List.set_cons_succ, i64_w, i32_w]
          rfl
        refine one_ (i := 1) (N := (some 84)) #[true, true, false, true, false, false, false, false, false, false, false] rfl rfl (one_of HT_.out (by kernel_rfl)) (by decide) (fun K hK => ?_)
        refine goes_ Try.func20 (by kernel_rfl) rfl #[.pointer (some ⟨B, 0, none⟩)] (by rfl) rfl rfl (by first | rfl | (simp only [List.map_toArray, List.map_cons, List.map_nil]; try rfl)) ?_
        (with_reducible refine (bt_done B _ v1 L _ (duo_fst (KD.out.below (by repeat (first | exact Below.refl _ _ | apply below_drew | apply pw_below_drewN)))) HLE.out).mono ?_)
        rintro e_ w_ ⟨vd, rfl, hR, hb⟩
        have HD1 := Aside0.mk (s_own8 hR)
        have HD := Aside0.mk (Below.refl w_.heap.size w_)
        have D1 := Aside0.mk ((KD.out.below (by repeat (first | exact Below.refl _ _ | apply below_drew | apply pw_below_drewN))).below hb)
        clear hR
        (try (have m_ := Aside0.mk (below_step (by repeat (first | exact HB.out | apply below_drew | apply below_alloc | apply pw_below_drewN)) hb); clear HB; have HB := m_; clear m_))
        clear hb
        refine ⟨_, rfl, ?_⟩
        refine hK.out _ _ trivial (fun hHeld => ?_)
        clear hK K
        refine norm_ (a' := ?_) ?_ ?_
        rotate_left
        · show Act.put _ (some 84) _ = _
          simp only [Act.put, List.setIfInBounds_toArray, List.set_cons_zero, List.set_cons_succ, i64_w, i32_w]
          rfl
        refine two_ (i := 2) (j := 4) (Ni := (some 85)) (Nj := (some 87)) #[true, true, true, true, false, false, false, false, false, false, false] #[true, true, false, true, true, false, false, false, false, false, false] rfl rfl rfl rfl (two_of HT_.out (by kernel_rfl)) (by decide) (by decide) (fun K hK => ?_)  (fun K hK => ?_)
        · skip
          refine value_ (by rfl) rfl (v := ?_) (w1 := ?_) ?_ ?_
          rotate_left 2
          · (go_simp; rw [HD1.out] <;> first | rfl | (repeat (first | exact HD.out | apply below_drew | apply below_alloc | apply pw_below_drewN)))
          refine hK.out _ _ trivial (fun hHeld => ?_)
          clear hK K
          refine norm_ (a' := ?_) ?_ ?_
          rotate_left
          · show Act.put _ (some 85) _ = _
            simp only [Act.put, List.setIfInBounds_toArray, List.set_cons_zero, List.set_cons_succ, i64_w, i32_w]
            rfl
          refine one_ (i := 4) (N := (some 87)) #[true, true, true, true, true, false, false, false, false, false, false] rfl rfl (one_of HT_.out (by kernel_rfl)) (by decide) (fun K hK => ?_)
          refine goes_ Try.func21 (by kernel_rfl) rfl #[.pointer (some ⟨B2, 0, none⟩)] (by rfl) rfl rfl (by first | rfl | (simp only [List.map_toArray, List.map_cons, List.map_nil]; try rfl)) ?_
          (with_reducible refine (rv_done B2 _ v2 L _ (duo_snd (D1.out.below (by repeat (first | exact Below.refl _ _ | apply below_drew | apply pw_below_drewN)))) HL.out).mono ?_)
          rintro e_ w_ ⟨ve, rfl, hR, hb⟩
          have HE1 := Aside0.mk (s_own8 hR)
          (try (have m_ := Aside0.mk (below_step (by repeat (first | exact HD.out | apply below_drew | apply below_alloc | apply pw_below_drewN)) hb); clear HD; have HD := m_; clear m_))
          (try (have m_ := Aside0.mk (below_step (by repeat (first | exact HB.out | apply below_drew | apply below_alloc | apply pw_below_drewN)) hb); clear HB; have HB := m_; clear m_))
          clear hb
          have HE := Aside0.mk (Below.refl w_.heap.size w_)
          clear hR
          refine ⟨_, rfl, ?_⟩
          refine hK.out _ _ trivial (fun hHeld => ?_)
          clear hK K
          refine norm_ (a' := ?_) ?_ ?_
          rotate_left
          · show Act.put _ (some 87) _ = _
            simp only [Act.put, List.setIfInBounds_toArray, List.set_cons_zero, List.set_cons_succ, i64_w, i32_w]
            rfl
          refine one_ (i := 5) (N := (some 88)) #[true, true, true, true, true, true, false, false, false, false, false] rfl rfl (one_of HT_.out (by kernel_rfl)) (by decide) (fun K hK => ?_)
          refine value_ (by rfl) rfl (v := ?_) (w1 := ?_) ?_ ?_
          rotate_left 2
          · (go_simp; rw [HE1.out] <;> first | rfl | (repeat (first | exact HE.out | apply below_drew | apply below_alloc | apply pw_below_drewN)))
          refine hK.out _ _ trivial (fun hHeld => ?_)
          clear hK K
          refine norm_ (a' := ?_) ?_ ?_
          rotate_left
          · show Act.put _ (some 88) _ = _
            simp only [Act.put, List.setIfInBounds_toArray, List.set_cons_zero, List.set_cons_succ, i64_w, i32_w]
            rfl
          refine take_ (i := 6) (N := (some 89)) (v := ?_) (a' := ?_) #[true, true, true, true, true, true, true, false, false, false, false] rfl rfl (take_ofW HT_.out HW_.out (by kernel_rfl)) (fun _ _ _ h => h) (Or.inl ⟨by rfl, ?_⟩) hHeld ?_ ?_
          rotate_left
          · rintro w' _
            go_simp
            with_reducible rfl
          rotate_left
          · simp only [Act.put, List.setIfInBounds_toArray, List.set_cons_zero, List.set_cons_succ, i64_w, i32_w]
            rfl
          refine take_ (i := 7) (N := (some 90)) (v := ?_) (a' := ?_) #[true, true, true, true, true, true, true, true, false, false, false] rfl rfl (take_ofW HT_.out HW_.out (by kernel_rfl)) (fun _ _ _ h => h) (Or.inl ⟨by rfl, ?_⟩) hHeld ?_ ?_
          rotate_left
          · rintro w' _
            go_simp
            with_reducible rfl
          rotate_left
          · simp only [Act.put, List.setIfInBounds_toArray, List.set_cons_zero, List.set_cons_succ, i64_w, i32_w]
            rfl
          refine one_ (i := 8) (N := (some 91)) #[true, true, true, true, true, true, true, true, true, false, false] rfl rfl (one_of HT_.out (by kernel_rfl)) (by decide) (fun K hK => ?_)
          refine goes_ Try.func22 (by kernel_rfl) rfl #[] (by rfl) rfl rfl (by first | rfl | (simp only [List.map_toArray, List.map_cons, List.map_nil]; try rfl)) ?_
          (with_reducible refine (bt_awake _).mono ?_)
          rintro e_ w_ ⟨rfl, hb⟩
          (try (have m_ := Aside0.mk (below_step (by repeat (first | exact HD.out | apply below_drew | apply below_alloc | apply pw_below_drewN)) hb); clear HD; have HD := m_; clear m_))
          (try (have m_ := Aside0.mk (below_step (by repeat (first | exact HE.out | apply below_drew | apply below_alloc | apply pw_below_drewN)) hb); clear HE; have HE := m_; clear m_))
          (try (have m_ := Aside0.mk (below_step (by repeat (first | exact HB.out | apply below_drew | apply below_alloc | apply pw_below_drewN)) hb); clear HB; have HB := m_; clear m_))
          clear hb
          refine ⟨_, rfl, ?_⟩
          refine hK.out _ _ trivial (fun hHeld => ?_)
          clear hK K
          refine norm_ (a' := ?_) ?_ ?_
          rotate_left
          · show Act.put _ (some 91) _ = _
            simp only [Act.put, List.setIfInBounds_toArray, List.set_cons_zero, List.set_cons_succ, i64_w, i32_w]
            rfl
          refine take_ (i := 9) (N := (some 92)) (v := ?_) (a' := ?_) #[true, true, true, true, true, true, true, true, true, true, false] rfl rfl (take_ofW HT_.out HW_.out (by kernel_rfl)) (fun _ _ _ h => h) (Or.inl ⟨by rfl, ?_⟩) hHeld ?_ ?_
          rotate_left
          · rintro w' _
            go_simp
            with_reducible rfl
          rotate_left
          · simp only [Act.put, List.setIfInBounds_toArray, List.set_cons_zero, List.set_cons_succ, i64_w, i32_w]
            rfl
          refine take_ (i := 10) (N := (some 6)) (v := ?_) (a' := ?_) #[true, true, true, true, true, true, true, true, true, true, true] rfl rfl (take_ofW HT_.out HW_.out (by kernel_rfl)) (fun _ _ _ h => h) (Or.inl ⟨by rfl, ?_⟩) hHeld ?_ ?_
          rotate_left
          · rintro w' _
            go_simp
            with_reducible rfl
          rotate_left
          · simp only [Act.put, List.setIfInBounds_toArray, List.set_cons_zero, List.set_cons_succ, i64_w, i32_w]
            rfl
          refine done_ (done_of HT_.out (by kernel_rfl)) ?_
          go_wp2
          go_ret
          exact ⟨rfl, HB.out⟩
        · skip
          refine goes_ Try.func21 (by kernel_rfl) rfl #[.pointer (some ⟨B2, 0, none⟩)] (by rfl) rfl rfl (by first | rfl | (simp only [List.map_toArray, List.map_cons, List.map_nil]; try rfl)) ?_
          (with_reducible refine (rv_done B2 _ v2 L _ (duo_snd (D1.out.below (by repeat (first | exact Below.refl _ _ | apply below_drew | apply pw_below_drewN)))) HL.out).mono ?_)
          rintro e_ w_ ⟨ve, rfl, hR, hb⟩
          have HE1 := Aside0.mk (s_own8 hR)
          (try (have m_ := Aside0.mk (below_step (by repeat (first | exact HD.out | apply below_drew | apply below_alloc | apply pw_below_drewN)) hb); clear HD; have HD := m_; clear m_))
          (try (have m_ := Aside0.mk (below_step (by repeat (first | exact HB.out | apply below_drew | apply below_alloc | apply pw_below_drewN)) hb); clear HB; have HB := m_; clear m_))
          clear hb
          have HE := Aside0.mk (Below.refl w_.heap.size w_)
          clear hR
          refine ⟨_, rfl, ?_⟩
          refine hK.out _ _ trivial (fun hHeld => ?_)
          clear hK K
          refine norm_ (a' := ?_) ?_ ?_
          rotate_left
          · show Act.put _ (some 87) _ = _
            simp only [Act.put, List.setIfInBounds_toArray, List.set_cons_zero, List.set_cons_succ, i64_w, i32_w]
            rfl
          refine two_ (i := 2) (j := 5) (Ni := (some 85)) (Nj := (some 88)) #[true, true, true, true, true, false, false, false, false, false, false] #[true, true, false, true, true, true, false, false, false, false, false] rfl rfl rfl rfl (two_of HT_.out (by kernel_rfl)) (by decide) (by decide) (fun K hK => ?_)  (fun K hK => ?_)
          · skip
            refine value_ (by rfl) rfl (v := ?_) (w1 := ?_) ?_ ?_
            rotate_left 2
            · (go_simp; rw [HD1.out] <;> first | rfl | (repeat (first | exact HD.out | apply below_drew | apply below_alloc | apply pw_below_drewN)))
            refine hK.out _ _ trivial (fun hHeld => ?_)
            clear hK K
            refine norm_ (a' := ?_) ?_ ?_
            rotate_left
            · show Act.put _ (some 85) _ = _
              simp only [Act.put, List.setIfInBounds_toArray, List.set_cons_zero, List.set_cons_succ, i64_w, i32_w]
              rfl
            refine one_ (i := 5) (N := (some 88)) #[true, true, true, true, true, true, false, false, false, false, false] rfl rfl (one_of HT_.out (by kernel_rfl)) (by decide) (fun K hK => ?_)
            refine value_ (by rfl) rfl (v := ?_) (w1 := ?_) ?_ ?_
            rotate_left 2
            · (go_simp; rw [HE1.out] <;> first | rfl | (repeat (first | exact HE.out | apply below_drew | apply below_alloc | apply pw_below_drewN)))
            refine hK.out _ _ trivial (fun hHeld => ?_)
            clear hK K
            refine norm_ (a' := ?_) ?_ ?_
            rotate_left
            · show Act.put _ (some 88) _ = _
              simp only [Act.put, List.setIfInBounds_toArray, List.set_cons_zero, List.set_cons_succ, i64_w, i32_w]
              rfl
            refine take_ (i := 6) (N := (some 89)) (v := ?_) (a' := ?_) #[true, true, true, true, true, true, true, false, false, false, false] rfl rfl (take_ofW HT_.out HW_.out (by kernel_rfl)) (fun _ _ _ h => h) (Or.inl ⟨by rfl, ?_⟩) hHeld ?_ ?_
            rotate_left
            · rintro w' _
              go_simp
              with_reducible rfl
            rotate_left
            · simp only [Act.put, List.setIfInBounds_toArray, List.set_cons_zero, List.set_cons_succ, i64_w, i32_w]
              rfl
            refine take_ (i := 7) (N := (some 90)) (v := ?_) (a' := ?_) #[true, true, true, true, true, true, true, true, false, false, false] rfl rfl (take_ofW HT_.out HW_.out (by kernel_rfl)) (fun _ _ _ h => h) (Or.inl ⟨by rfl, ?_⟩) hHeld ?_ ?_
            rotate_left
            · rintro w' _
              go_simp
              with_reducible rfl
            rotate_left
            · simp only [Act.put, List.setIfInBounds_toArray, List.set_cons_zero, List.set_cons_succ, i64_w, i32_w]
              rfl
            refine one_ (i := 8) (N := (some 91)) #[true, true, true, true, true, true, true, true, true, false, false] rfl rfl (one_of HT_.out (by kernel_rfl)) (by decide) (fun K hK => ?_)
            refine goes_ Try.func22 (by kernel_rfl) rfl #[] (by rfl) rfl rfl (by first | rfl | (simp only [List.map_toArray, List.map_cons, List.map_nil]; try rfl)) ?_
            (with_reducible refine (bt_awake _).mono ?_)
            rintro e_ w_ ⟨rfl, hb⟩
            (try (have m_ := Aside0.mk (below_step (by repeat (first | exact HD.out | apply below_drew | apply below_alloc | apply pw_below_drewN)) hb); clear HD; have HD := m_; clear m_))
            (try (have m_ := Aside0.mk (below_step (by repeat (first | exact HE.out | apply below_drew | apply below_alloc | apply pw_below_drewN)) hb); clear HE; have HE := m_; clear m_))
            (try (have m_ := Aside0.mk (below_step (by repeat (first | exact HB.out | apply below_drew | apply below_alloc | apply pw_below_drewN)) hb); clear HB; have HB := m_; clear m_))
            clear hb
            refine ⟨_, rfl, ?_⟩
            refine hK.out _ _ trivial (fun hHeld => ?_)
            clear hK K
            refine norm_ (a' := ?_) ?_ ?_
            rotate_left
            · show Act.put _ (some 91) _ = _
              simp only [Act.put, List.setIfInBounds_toArray, List.set_cons_zero, List.set_cons_succ, i64_w, i32_w]
              rfl
            refine take_ (i := 9) (N := (some 92)) (v := ?_) (a' := ?_) #[true, true, true, true, true, true, true, true, true, true, false] rfl rfl (take_ofW HT_.out HW_.out (by kernel_rfl)) (fun _ _ _ h => h) (Or.inl ⟨by rfl, ?_⟩) hHeld ?_ ?_
            rotate_left
            · rintro w' _
              go_simp
              with_reducible rfl
            rotate_left
            · simp only [Act.put, List.setIfInBounds_toArray, List.set_cons_zero, List.set_cons_succ, i64_w, i32_w]
              rfl
            refine take_ (i := 10) (N := (some 6)) (v := ?_) (a' := ?_) #[true, true, true, true, true, true, true, true, true, true, true] rfl rfl (take_ofW HT_.out HW_.out (by kernel_rfl)) (fun _ _ _ h => h) (Or.inl ⟨by rfl, ?_⟩) hHeld ?_ ?_
            rotate_left
            · rintro w' _
              go_simp
              with_reducible rfl
            rotate_left
            · simp only [Act.put, List.setIfInBounds_toArray, List.set_cons_zero, List.set_cons_succ, i64_w, i32_w]
              rfl
            refine done_ (done_of HT_.out (by kernel_rfl)) ?_
            go_wp2
            go_ret
            exact ⟨rfl, HB.out⟩
          · skip
            refine value_ (by rfl) rfl (v := ?_) (w1 := ?_) ?_ ?_
            rotate_left 2
            · (go_simp; rw [HE1.out] <;> first | rfl | (repeat (first | exact HE.out | apply below_drew | apply below_alloc | apply pw_below_drewN)))
            refine hK.out _ _ trivial (fun hHeld => ?_)
            clear hK K
            refine norm_ (a' := ?_) ?_ ?_
            rotate_left
            · show Act.put _ (some 88) _ = _
              simp only [Act.put, List.setIfInBounds_toArray, List.set_cons_zero, List.set_cons_succ, i64_w, i32_w]
              rfl
            refine one_ (i := 2) (N := (some 85)) #[true, true, true, true, true, true, false, false, false, false, false] rfl rfl (one_of HT_.out (by kernel_rfl)) (by decide) (fun K hK => ?_)
            refine value_ (by rfl) rfl (v := ?_) (w1 := ?_) ?_ ?_
            rotate_left 2
            · (go_simp; rw [HD1.out] <;> first | rfl | (repeat (first | exact HD.out | apply below_drew | apply below_alloc | apply pw_below_drewN)))
            refine hK.out _ _ trivial (fun hHeld => ?_)
            clear hK K
            refine norm_ (a' := ?_) ?_ ?_
            rotate_left
            · show Act.put _ (some 85) _ = _
              simp only [Act.put, List.setIfInBounds_toArray, List.set_cons_zero, List.set_cons_succ, i64_w, i32_w]
              rfl
            refine take_ (i := 6) (N := (some 89)) (v := ?_) (a' := ?_) #[true, true, true, true, true, true, true, false, false, false, false] rfl rfl (take_ofW HT_.out HW_.out (by kernel_rfl)) (fun _ _ _ h => h) (Or.inl ⟨by rfl, ?_⟩) hHeld ?_ ?_
            rotate_left
            · rintro w' _
              go_simp
              with_reducible rfl
            rotate_left
            · simp only [Act.put, List.setIfInBounds_toArray, List.set_cons_zero, List.set_cons_succ, i64_w, i32_w]
              rfl
            refine take_ (i := 7) (N := (some 90)) (v := ?_) (a' := ?_) #[true, true, true, true, true, true, true, true, false, false, false] rfl rfl (take_ofW HT_.out HW_.out (by kernel_rfl)) (fun _ _ _ h => h) (Or.inl ⟨by rfl, ?_⟩) hHeld ?_ ?_
            rotate_left
            · rintro w' _
              go_simp
              with_reducible rfl
            rotate_left
            · simp only [Act.put, List.setIfInBounds_toArray, List.set_cons_zero, List.set_cons_succ, i64_w, i32_w]
              rfl
            refine one_ (i := 8) (N := (some 91)) #[true, true, true, true, true, true, true, true, true, false, false] rfl rfl (one_of HT_.out (by kernel_rfl)) (by decide) (fun K hK => ?_)
            refine goes_ Try.func22 (by kernel_rfl) rfl #[] (by rfl) rfl rfl (by first | rfl | (simp only [List.map_toArray, List.map_cons, List.map_nil]; try rfl)) ?_
            (with_reducible refine (bt_awake _).mono ?_)
            rintro e_ w_ ⟨rfl, hb⟩
            (try (have m_ := Aside0.mk (below_step (by repeat (first | exact HD.out | apply below_drew | apply below_alloc | apply pw_below_drewN)) hb); clear HD; have HD := m_; clear m_))
            (try (have m_ := Aside0.mk (below_step (by repeat (first | exact HE.out | apply below_drew | apply below_alloc | apply pw_below_drewN)) hb); clear HE; have HE := m_; clear m_))
            (try (have m_ := Aside0.mk (below_step (by repeat (first | exact HB.out | apply below_drew | apply below_alloc | apply pw_below_drewN)) hb); clear HB; have HB := m_; clear m_))
            clear hb
            refine ⟨_, rfl, ?_⟩
            refine hK.out _ _ trivial (fun hHeld => ?_)
            clear hK K
            refine norm_ (a' := ?_) ?_ ?_
            rotate_left
            · show Act.put _ (some 91) _ = _
              simp only [Act.put, List.setIfInBounds_toArray, List.set_cons_zero, List.set_cons_succ, i64_w, i32_w]
              rfl
            refine take_ (i := 9) (N := (some 92)) (v := ?_) (a' := ?_) #[true, true, true, true, true, true, true, true, true, true, false] rfl rfl (take_ofW HT_.out HW_.out (by kernel_rfl)) (fun _ _ _ h => h) (Or.inl ⟨by rfl, ?_⟩) hHeld ?_ ?_
            rotate_left
            · rintro w' _
              go_simp
              with_reducible rfl
            rotate_left
            · simp only [Act.put, List.setIfInBounds_toArray, List.set_cons_zero, List.set_cons_succ, i64_w, i32_w]
              rfl
            refine take_ (i := 10) (N := (some 6)) (v := ?_) (a' := ?_) #[true, true, true, true, true, true, true, true, true, true, true] rfl rfl (take_ofW HT_.out HW_.out (by kernel_rfl)) (fun _ _ _ h => h) (Or.inl ⟨by rfl, ?_⟩) hHeld ?_ ?_
            rotate_left
            · rintro w' _
              go_simp
              with_reducible rfl
            rotate_left
            · simp only [Act.put, List.setIfInBounds_toArray, List.set_cons_zero, List.set_cons_succ, i64_w, i32_w]
              rfl
            refine done_ (done_of HT_.out (by kernel_rfl)) ?_
            go_wp2
            go_ret
            exact ⟨rfl, HB.out⟩
theorem BitsWrites : carillonlaw06_BitsWrites.Pure := by
  intro A0 c0 l0 A1 c1 l1 A2 c2 l2 w hr0 hc0 hm0 y0 hw0 hr1 hc1 hm1 y1 hw1 hr2 hc2 hm2 y2 hw2
  have h0 : l0.length ≤ 140737488351232 := by omega
  have h1 : l1.length ≤ 140737488351232 := by omega
  have h2 : l2.length ≤ 140737488351232 := by omega
  by_cases hA : l0.length ≤ l1.length ∧ l0.length ≤ l2.length ∧ l0.length ≤ 200
  · exact writes_main l0.length A0 c0 l0 A1 c1 l1 A2 c2 l2 w _ _ _ hr0 hw0 hr1 hw1 hr2 hw2 h0 h1 h2 (by omega) (by omega) (by omega) (by omega) (.inl rfl)
  · by_cases hB : l1.length < l0.length ∧ l1.length ≤ l2.length ∧ l1.length ≤ 200
    · exact writes_main l1.length A0 c0 l0 A1 c1 l1 A2 c2 l2 w _ _ _ hr0 hw0 hr1 hw1 hr2 hw2 h0 h1 h2 (by omega) (by omega) (by omega) (by omega) (.inr (.inl ⟨by omega, rfl⟩))
    · by_cases hC : l2.length ≤ 200
      · exact writes_main l2.length A0 c0 l0 A1 c1 l1 A2 c2 l2 w _ _ _ hr0 hw0 hr1 hw1 hr2 hw2 h0 h1 h2 (by omega) (by omega) (by omega) (by omega) (.inr (.inr (.inl ⟨by omega, by omega, rfl⟩)))
      · exact writes_main 200 A0 c0 l0 A1 c1 l1 A2 c2 l2 w _ _ _ hr0 hw0 hr1 hw1 hr2 hw2 h0 h1 h2 (by omega) (by omega) (by omega) (by omega) (.inr (.inr (.inr ⟨by omega, by omega, by omega, rfl⟩)))
end Go.Proofs.Ytaoiamifofkklaa.Pure
