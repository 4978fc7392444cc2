/- Proved: carillonlaw31.PoolZero returns true: a pool that nobody made has nothing. Conditions: none. -/
import Derived.Test.YtecaifadcggijaaPPoolZx2
import Derived.Test.YtecaifadcggijaaX1Pure
import Derived.WalkSpells
namespace Go.Proofs.Ytecaifadcggijaa.Pure
open Go.RowKit Go.Proofs.Ytecaifadcggijaa.PPoolZ Go.Proofs.YtecaifadcggijaaW.PrintWords Go.Proofs.YtecaifadcggijaaW.PrintLast Go.Proofs.YtecaifadcggijaaW.PrintMore
set_option linter.unusedVariables false
set_option linter.unusedSimpArgs false
def rg15.T1 : Bool × List (List Nat × List Nat) := (true, [([], []), ([0], [0]), ([1], [1]), ([2, 1], [2]), ([3], [3]), ([4, 3], [3, 4]), ([5, 3], [3, 5]), ([6, 3], [3, 6]), ([3], [3]), ([8, 3], [3, 8]), ([7, 9, 3], [3, 7, 9]), ([3, 10], [3, 10]), ([11, 3, 0, 1, 2, 3, 4, 5, 6, 7, 8, 9, 10, 11], [11])])
def rg15.B1 : List Nat := [0, 1, 3, 7, 15, 31, 63, 127, 15, 271, 1023, 2047, 4095]
theorem rg15.tab1 : rtab .any (opsOf Try.f15 1) = rg15.T1 := by kernel_rfl
theorem rg15.bits1 : waitsOk rg15.T1.2 rg15.B1 = true := by kernel_rfl
def pozNone (p : Option Addr) (w : World) : Prop := p = none ∨ ∃ B, p = some ⟨B, 0, none⟩ ∧ w.cell? ⟨B, 1, none⟩ = some (.map none)
theorem poz_below {p : Option Addr} {w w' : World} (h : pozNone p w) (hb : Below w.heap.size w w') : pozNone p w' := by
  rcases h with rfl | ⟨B, rfl, hc⟩
  · exact .inl rfl
  · exact .inr ⟨B, rfl, (hb.cell (World.block_lt_of_cell? w _ hc)).trans hc⟩
set_option maxRecDepth 100000 in
theorem poz_none (p : Option Addr) (w : World) (h : pozNone p w) : Calls Try.prog 37 #[.pointer p] w fun e w' => e = .returned (.bool true) ∧ Below w.heap.size w w' := by
  rcases h with rfl | ⟨B, rfl, hc⟩
  · go_enter Try.func37, Try.ntmps37
    go_wp2
    go_ret
    exact ⟨rfl, Below.refl _ _⟩
  · have hu := Try.underlying49
    have hm := run_eql_map_nil (P := Try.prog) w _ _ _ none Try.underlying47
    go_enter Try.func37, Try.ntmps37
    go_wp2
    go_ret
    exact ⟨rfl, Below.refl _ _⟩
set_option maxHeartbeats 1000000 in
theorem poz_Add (p : Option Addr) (a0 : Int) (A1 : Option Addr) (n1 c1 : Nat) (w : World) (h : pozNone p w) : Calls Try.prog 12 #[.pointer p, .int .i64 a0, .slice A1 n1 c1] w fun e w' => e = .returned (.tuple #[.int .i64 0, .int .i64 7]) ∧ Below w.heap.size w w' := by
  have HZ := Aside0.mk h
  have HB := Aside0.mk (Below.refl w.heap.size w)
  clear h
  go_enter Try.func12, Try.ntmps12
  go_wp2_with (go_at_call 37; refine (poz_none p _ (poz_below HZ.out (by repeat (first | exact HB.out | exact Below.refl _ _ | apply below_alloc | apply below_drew | apply pw_below_drewN)))).mono ?_; rintro e w1 ⟨rfl, hb⟩; have n_ := Aside0.mk (show Below w.heap.size w w1 from below_step (by repeat (first | exact HB.out | exact Below.refl _ _ | apply below_alloc | apply below_drew | apply pw_below_drewN)) hb); clear HB hb; have HB := n_; clear n_)
  (first | go_ret | go_ret2 | go_ret3)
  exact ⟨rfl, (by repeat (first | exact HB.out | exact Below.refl _ _ | apply below_alloc | apply below_drew | apply pw_below_drewN))⟩
set_option maxHeartbeats 1000000 in
theorem poz_Get (p : Option Addr) (a0 : Int) (w : World) (h : pozNone p w) : Calls Try.prog 14 #[.pointer p, .int .i64 a0] w fun e w' => e = .returned (.tuple #[.slice none 0 0, .int .i64 0, .int .i64 7]) ∧ Below w.heap.size w w' := by
  have HZ := Aside0.mk h
  have HB := Aside0.mk (Below.refl w.heap.size w)
  clear h
  go_enter Try.func14, Try.ntmps14
  go_wp2_with (go_at_call 37; refine (poz_none p _ (poz_below HZ.out (by repeat (first | exact HB.out | exact Below.refl _ _ | apply below_alloc | apply below_drew | apply pw_below_drewN)))).mono ?_; rintro e w1 ⟨rfl, hb⟩; have n_ := Aside0.mk (show Below w.heap.size w w1 from below_step (by repeat (first | exact HB.out | exact Below.refl _ _ | apply below_alloc | apply below_drew | apply pw_below_drewN)) hb); clear HB hb; have HB := n_; clear n_)
  (first | go_ret | go_ret2 | go_ret3)
  exact ⟨rfl, (by repeat (first | exact HB.out | exact Below.refl _ _ | apply below_alloc | apply below_drew | apply pw_below_drewN))⟩
set_option maxHeartbeats 1000000 in
theorem poz_Len (p : Option Addr) (w : World) (h : pozNone p w) : Calls Try.prog 16 #[.pointer p] w fun e w' => e = .returned (.int .i64 0) ∧ Below w.heap.size w w' := by
  have HZ := Aside0.mk h
  have HB := Aside0.mk (Below.refl w.heap.size w)
  clear h
  go_enter Try.func16, Try.ntmps16
  go_wp2_with (go_at_call 37; refine (poz_none p _ (poz_below HZ.out (by repeat (first | exact HB.out | exact Below.refl _ _ | apply below_alloc | apply below_drew | apply pw_below_drewN)))).mono ?_; rintro e w1 ⟨rfl, hb⟩; have n_ := Aside0.mk (show Below w.heap.size w w1 from below_step (by repeat (first | exact HB.out | exact Below.refl _ _ | apply below_alloc | apply below_drew | apply pw_below_drewN)) hb); clear HB hb; have HB := n_; clear n_)
  (first | go_ret | go_ret2 | go_ret3)
  exact ⟨rfl, (by repeat (first | exact HB.out | exact Below.refl _ _ | apply below_alloc | apply below_drew | apply pw_below_drewN))⟩
set_option maxHeartbeats 1000000 in
theorem poz_Since (p : Option Addr) (a0 : Int) (w : World) (h : pozNone p w) : Calls Try.prog 24 #[.pointer p, .int .i64 a0] w fun e w' => e = .returned (.slice none 0 0) ∧ Below w.heap.size w w' := by
  have HZ := Aside0.mk h
  have HB := Aside0.mk (Below.refl w.heap.size w)
  clear h
  go_enter Try.func24, Try.ntmps24
  go_wp2_with (go_at_call 37; refine (poz_none p _ (poz_below HZ.out (by repeat (first | exact HB.out | exact Below.refl _ _ | apply below_alloc | apply below_drew | apply pw_below_drewN)))).mono ?_; rintro e w1 ⟨rfl, hb⟩; have n_ := Aside0.mk (show Below w.heap.size w w1 from below_step (by repeat (first | exact HB.out | exact Below.refl _ _ | apply below_alloc | apply below_drew | apply pw_below_drewN)) hb); clear HB hb; have HB := n_; clear n_)
  (first | go_ret | go_ret2 | go_ret3)
  exact ⟨rfl, (by repeat (first | exact HB.out | exact Below.refl _ _ | apply below_alloc | apply below_drew | apply pw_below_drewN))⟩
set_option maxHeartbeats 1000000 in
theorem poz_Of (p : Option Addr) (a0 : Int) (w : World) (h : pozNone p w) : Calls Try.prog 25 #[.pointer p, .int .i64 a0] w fun e w' => e = .returned (.slice none 0 0) ∧ Below w.heap.size w w' := by
  have HZ := Aside0.mk h
  have HB := Aside0.mk (Below.refl w.heap.size w)
  clear h
  go_enter Try.func25, Try.ntmps25
  go_wp2_with (go_at_call 37; refine (poz_none p _ (poz_below HZ.out (by repeat (first | exact HB.out | exact Below.refl _ _ | apply below_alloc | apply below_drew | apply pw_below_drewN)))).mono ?_; rintro e w1 ⟨rfl, hb⟩; have n_ := Aside0.mk (show Below w.heap.size w w1 from below_step (by repeat (first | exact HB.out | exact Below.refl _ _ | apply below_alloc | apply below_drew | apply pw_below_drewN)) hb); clear HB hb; have HB := n_; clear n_)
  (first | go_ret | go_ret2 | go_ret3)
  exact ⟨rfl, (by repeat (first | exact HB.out | exact Below.refl _ _ | apply below_alloc | apply below_drew | apply pw_below_drewN))⟩
set_option maxHeartbeats 2000000 in
theorem poz_Sent (p : Option Addr) (A0 : Option Addr) (n0 c0 : Nat) (w : World) (h : pozNone p w) : Calls Try.prog 15 #[.pointer p, .slice A0 n0 c0] w fun e w' => e = .returned (.bool false) ∧ Below w.heap.size w w' := by
  have HZ := Aside0.mk h
  have HB := Aside0.mk (Below.refl w.heap.size w)
  clear h
  go_enter Try.func15, Try.ntmps15
  go_wp2_with fail
  refine start_ (n := 13) (S := fun w' => True) (ds := []) #[false, false, false, false, false, false, false, false, false, false, false, false, false] (by kernel_rfl) rfl rfl trivial (fun hHeld => ?_); refine with_tabW rg15.tab1 rg15.bits1 (fun HT_ HW_ => ?_)
  refine take_ (i := 0) (N := (some 5)) (v := ?_) (a' := ?_) #[true, false, false, false, false, false, false, false, false, false, false, false, false] rfl rfl (take_ofW HT_.out HW_.out (by kernel_rfl)) (fun _ _ _ h => h) (Or.inl ⟨by rfl, ?_⟩) hHeld ?_ ?_
  rotate_left
  · rintro w' _
    go_simp
    with_reducible rfl
  rotate_left
  · simp only [Act.put, List.setIfInBounds_toArray, List.set_cons_zero, List.set_cons_succ, i64_w, i32_w]
    rfl
  refine one_ (i := 1) (N := (some 6)) #[true, true, false, false, false, false, false, false, false, false, false, false, false] rfl rfl (one_of HT_.out (by kernel_rfl)) (by decide) (fun K hK => ?_)
  refine goes_ Try.func37 (by kernel_rfl) rfl #[.pointer p] (by rfl) rfl rfl (by first | rfl | (simp only [List.map_toArray, List.map_cons, List.map_nil]; try rfl)) ?_
  (with_reducible refine (poz_none p _ (poz_below HZ.out (by repeat (first | exact HB.out | exact Below.refl _ _ | apply below_alloc | apply below_drew | apply pw_below_drewN)))).mono ?_)
  rintro e_ w_ ⟨rfl, hb⟩
  have n_ := Aside0.mk (show Below w.heap.size w w_ from below_step (by repeat (first | exact HB.out | apply below_alloc | apply below_drew | apply pw_below_drewN)) hb)
  clear HB hb
  have HB := n_
  clear n_
  refine ⟨_, rfl, ?_⟩
  refine hK.out _ _ trivial (fun hHeld => ?_)
  clear hK K
  refine norm_ (a' := ?_) ?_ ?_
  rotate_left
  · show Act.put _ (some 6) _ = _
    simp only [Act.put, List.setIfInBounds_toArray, List.set_cons_zero, List.set_cons_succ, i64_w, i32_w]
    rfl
  refine take_ (i := 2) (N := (some 7)) (v := ?_) (a' := ?_) #[true, true, true, false, false, false, false, false, false, false, false, false, false] rfl rfl (take_ofW HT_.out HW_.out (by kernel_rfl)) (fun _ _ _ h => h) (Or.inl ⟨by rfl, ?_⟩) hHeld ?_ ?_
  rotate_left
  · rintro w' _
    go_simp
    with_reducible rfl
  rotate_left
  · simp only [Act.put, List.setIfInBounds_toArray, List.set_cons_zero, List.set_cons_succ, i64_w, i32_w]
    rfl
  refine take_ (i := 3) (N := (some 8)) (v := ?_) (a' := ?_) #[true, true, true, true, false, false, false, false, false, false, false, false, false] rfl rfl (take_ofW HT_.out HW_.out (by kernel_rfl)) (fun _ _ _ h => h) (Or.inl ⟨by rfl, ?_⟩) hHeld ?_ ?_
  rotate_left
  · rintro w' _
    go_simp
    with_reducible rfl
  rotate_left
  · simp only [Act.put, List.setIfInBounds_toArray, List.set_cons_zero, List.set_cons_succ, i64_w, i32_w]
    rfl
  refine take_ (i := 4) (N := (some 9)) (v := undef) (a' := ?_) #[true, true, true, true, true, false, false, false, false, false, false, false, false] rfl rfl (take_ofW HT_.out HW_.out (by kernel_rfl)) (fun _ _ _ h => h) (Or.inr ⟨by rfl, rfl⟩) hHeld ?_ ?_
  rotate_left
  · simp only [Act.put, List.setIfInBounds_toArray, List.set_cons_zero, List.set_cons_succ, i64_w, i32_w]
    rfl
  refine take_ (i := 5) (N := (some 10)) (v := undef) (a' := ?_) #[true, true, true, true, true, true, false, false, false, false, false, false, false] rfl rfl (take_ofW HT_.out HW_.out (by kernel_rfl)) (fun _ _ _ h => h) (Or.inr ⟨by rfl, rfl⟩) hHeld ?_ ?_
  rotate_left
  · simp only [Act.put, List.setIfInBounds_toArray, List.set_cons_zero, List.set_cons_succ, i64_w, i32_w]
    rfl
  refine take_ (i := 6) (N := (some 11)) (v := undef) (a' := ?_) #[true, true, true, true, true, true, true, false, false, false, false, false, false] rfl rfl (take_ofW HT_.out HW_.out (by kernel_rfl)) (fun _ _ _ h => h) (Or.inr ⟨by rfl, rfl⟩) hHeld ?_ ?_
  rotate_left
  · simp only [Act.put, List.setIfInBounds_toArray, List.set_cons_zero, List.set_cons_succ, i64_w, i32_w]
    rfl
  refine take_ (i := 7) (N := (some 12)) (v := undef) (a' := ?_) #[true, true, true, true, true, true, true, true, false, false, false, false, false] rfl rfl (take_ofW HT_.out HW_.out (by kernel_rfl)) (fun _ _ _ h => h) (Or.inr ⟨by rfl, rfl⟩) hHeld ?_ ?_
  rotate_left
  · simp only [Act.put, List.setIfInBounds_toArray, List.set_cons_zero, List.set_cons_succ, i64_w, i32_w]
    rfl
  refine take_ (i := 8) (N := (some 13)) (v := undef) (a' := ?_) #[true, true, true, true, true, true, true, true, true, false, false, false, false] rfl rfl (take_ofW HT_.out HW_.out (by kernel_rfl)) (fun _ _ _ h => h) (Or.inr ⟨by rfl, rfl⟩) hHeld ?_ ?_
  rotate_left
  · simp only [Act.put, List.setIfInBounds_toArray, List.set_cons_zero, List.set_cons_succ, i64_w, i32_w]
    rfl
  refine take_ (i := 9) (N := (some 14)) (v := undef) (a' := ?_) #[true, true, true, true, true, true, true, true, true, true, false, false, false] rfl rfl (take_ofW HT_.out HW_.out (by kernel_rfl)) (fun _ _ _ h => h) (Or.inr ⟨by rfl, rfl⟩) hHeld ?_ ?_
  rotate_left
  · simp only [Act.put, List.setIfInBounds_toArray, List.set_cons_zero, List.set_cons_succ, i64_w, i32_w]
    rfl
  refine take_ (i := 10) (N := (some 15)) (v := undef) (a' := ?_) #[true, true, true, true, true, true, true, true, true, true, true, false, false] rfl rfl (take_ofW HT_.out HW_.out (by kernel_rfl)) (fun _ _ _ h => h) (Or.inr ⟨by rfl, rfl⟩) hHeld ?_ ?_
  rotate_left
  · simp only [Act.put, List.setIfInBounds_toArray, List.set_cons_zero, List.set_cons_succ, i64_w, i32_w]
    rfl
  refine take_ (i := 11) (N := (some 16)) (v := ?_) (a' := ?_) #[true, true, true, true, true, true, true, true, true, true, true, true, false] rfl rfl (take_ofW HT_.out HW_.out (by kernel_rfl)) (fun _ _ _ h => h) (Or.inl ⟨by rfl, ?_⟩) hHeld ?_ ?_
  rotate_left
  · rintro w' _
    go_simp
    with_reducible rfl
  rotate_left
  · simp only [Act.put, List.setIfInBounds_toArray, List.set_cons_zero, List.set_cons_succ, i64_w, i32_w]
    rfl
  refine take_ (i := 12) (N := (some 4)) (v := ?_) (a' := ?_) #[true, true, true, true, true, true, true, true, true, true, true, true, true] rfl rfl (take_ofW HT_.out HW_.out (by kernel_rfl)) (fun _ _ _ h => h) (Or.inl ⟨by rfl, ?_⟩) hHeld ?_ ?_
  rotate_left
  · rintro w' _
    go_simp
    with_reducible rfl
  rotate_left
  · simp only [Act.put, List.setIfInBounds_toArray, List.set_cons_zero, List.set_cons_succ, i64_w, i32_w]
    rfl
  refine done_ (done_of HT_.out (by kernel_rfl)) ?_
  go_wp2
  go_ret
  exact ⟨rfl, HB.out⟩
set_option maxHeartbeats 4000000 in
theorem PoolZero : carillonlaw31_PoolZero.Pure := by
  intro A0 c0 l w hr0 hc0 hm y0 hw0
  obtain ⟨n, hn⟩ : ∃ n, l.length = n := ⟨_, rfl⟩
  rw [hn] at hc0 ⊢
  clear hr0 hc0 hm y0 hw0 hn
  have hu := Try.underlying49
  go_enter Try.func6, Try.ntmps6
  go_wp2_with fail
  have hz : pozNone (some ⟨w.heap.size, 0, none⟩) (w.alloc (.cells #[Value.slice none 0 0, Value.map none] 49)) := .inr ⟨_, rfl, by simp⟩
  have hb : Below w.heap.size w (w.alloc (.cells #[Value.slice none 0 0, Value.map none] 49)) := (Below.refl _ w).alloc (Nat.le_refl _) _
  generalize (w.alloc (.cells #[Value.slice none 0 0, Value.map none] 49)) = W at hz hb ⊢
  have HZ := Aside0.mk hz
  have HB := Aside0.mk hb
  have HW := Aside0.mk (Below.refl W.heap.size W)
  clear hz hb
  refine (poz_Add none _ _ _ _ _ (.inl rfl)).mono ?_
  rintro e w1 ⟨rfl, hb⟩
  have n_ := Aside0.mk (below_step HB.out hb)
  have m_ := Aside0.mk (below_step HW.out hb)
  clear HB HW hb
  have HB := n_
  have HW := m_
  clear n_ m_
  go_wp2_with (first
    | (go_at_call 12; refine (poz_Add _ _ _ _ _ _ ?hz).mono ?_; (case hz => first | exact Or.inl rfl | exact poz_below HZ.out (by repeat (first | exact HW.out | exact Below.refl _ _))); rintro e w1 ⟨rfl, hb⟩; have n_ := Aside0.mk (below_step (by repeat (first | exact HB.out)) hb); have m_ := Aside0.mk (below_step (by repeat (first | exact HW.out | exact Below.refl _ _)) hb); clear HB HW hb; have HB := n_; have HW := m_; clear n_ m_)
    | (go_at_call 14; refine (poz_Get _ _ _ ?hz).mono ?_; (case hz => first | exact Or.inl rfl | exact poz_below HZ.out (by repeat (first | exact HW.out | exact Below.refl _ _))); rintro e w1 ⟨rfl, hb⟩; have n_ := Aside0.mk (below_step (by repeat (first | exact HB.out)) hb); have m_ := Aside0.mk (below_step (by repeat (first | exact HW.out | exact Below.refl _ _)) hb); clear HB HW hb; have HB := n_; have HW := m_; clear n_ m_)
    | (go_at_call 16; refine (poz_Len _ _ ?hz).mono ?_; (case hz => first | exact Or.inl rfl | exact poz_below HZ.out (by repeat (first | exact HW.out | exact Below.refl _ _))); rintro e w1 ⟨rfl, hb⟩; have n_ := Aside0.mk (below_step (by repeat (first | exact HB.out)) hb); have m_ := Aside0.mk (below_step (by repeat (first | exact HW.out | exact Below.refl _ _)) hb); clear HB HW hb; have HB := n_; have HW := m_; clear n_ m_)
    | (go_at_call 24; refine (poz_Since _ _ _ ?hz).mono ?_; (case hz => first | exact Or.inl rfl | exact poz_below HZ.out (by repeat (first | exact HW.out | exact Below.refl _ _))); rintro e w1 ⟨rfl, hb⟩; have n_ := Aside0.mk (below_step (by repeat (first | exact HB.out)) hb); have m_ := Aside0.mk (below_step (by repeat (first | exact HW.out | exact Below.refl _ _)) hb); clear HB HW hb; have HB := n_; have HW := m_; clear n_ m_)
    | (go_at_call 15; refine (poz_Sent _ _ _ _ _ ?hz).mono ?_; (case hz => first | exact Or.inl rfl | exact poz_below HZ.out (by repeat (first | exact HW.out | exact Below.refl _ _))); rintro e w1 ⟨rfl, hb⟩; have n_ := Aside0.mk (below_step (by repeat (first | exact HB.out)) hb); have m_ := Aside0.mk (below_step (by repeat (first | exact HW.out | exact Below.refl _ _)) hb); clear HB HW hb; have HB := n_; have HW := m_; clear n_ m_)
    | (go_at_call 25; refine (poz_Of _ _ _ ?hz).mono ?_; (case hz => first | exact Or.inl rfl | exact poz_below HZ.out (by repeat (first | exact HW.out | exact Below.refl _ _))); rintro e w1 ⟨rfl, hb⟩; have n_ := Aside0.mk (below_step (by repeat (first | exact HB.out)) hb); have m_ := Aside0.mk (below_step (by repeat (first | exact HW.out | exact Below.refl _ _)) hb); clear HB HW hb; have HB := n_; have HW := m_; clear n_ m_))
  go_ret
  exact ⟨rfl, HB.out⟩
end Go.Proofs.Ytecaifadcggijaa.Pure
