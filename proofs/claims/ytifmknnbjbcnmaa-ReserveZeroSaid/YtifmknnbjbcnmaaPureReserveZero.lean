/- Proved: carillonlaw13.ReserveZero returns true: a reserve that nobody made answers nothing. Conditions: none. -/
import Derived.Test.YtifmknnbjbcnmaaPBankZx1
import Derived.Test.YtifmknnbjbcnmaaX1Pure
namespace Go.Proofs.Ytifmknnbjbcnmaa.Pure
open Go.RowKit Go.Proofs.Ytifmknnbjbcnmaa.PBankZ Go.Proofs.YtifmknnbjbcnmaaW.PrintWords Go.Proofs.YtifmknnbjbcnmaaW.PrintLast Go.Proofs.YtifmknnbjbcnmaaW.PrintMore
set_option linter.unusedVariables false
set_option linter.unusedSimpArgs false
def rezNone (p : Option Addr) (w : World) : Prop := p = none ∨ ∃ B, p = some ⟨B, 0, none⟩ ∧ w.cell? ⟨B, 0, none⟩ = some (.pointer none)
theorem rez_below {p : Option Addr} {w w' : World} (h : rezNone p w) (hb : Below w.heap.size w w') : rezNone p w' := by
  rcases h with rfl | ⟨B, rfl, hc⟩
  · exact .inl rfl
  · exact .inr ⟨B, rfl, (hb.cell (World.block_lt_of_cell? w _ hc)).trans hc⟩
set_option maxRecDepth 100000 in
theorem rez_none (p : Option Addr) (w : World) (h : rezNone p w) : Calls Try.prog 61 #[.pointer p] w fun e w' => e = .returned (.bool true) ∧ Below w.heap.size w w' := by
  rcases h with rfl | ⟨B, rfl, hc⟩
  · go_enter Try.func61, Try.ntmps61
    go_wp2
    go_ret
    exact ⟨rfl, Below.refl _ _⟩
  · have hu := Try.underlying60
    go_enter Try.func61, Try.ntmps61
    go_wp2
    go_ret
    exact ⟨rfl, Below.refl _ _⟩
set_option maxHeartbeats 1000000 in
theorem rez_Take (p : Option Addr) (a0 : Int) (w : World) (h : rezNone p w) : Calls Try.prog 31 #[.pointer p, .int .i64 a0] w fun e w' => e = .returned (.int .i64 7) ∧ Below w.heap.size w w' := by
  have HZ := Aside0.mk h
  have HB := Aside0.mk (Below.refl w.heap.size w)
  clear h
  go_enter Try.func31, Try.ntmps31
  go_wp2_with (go_at_call 61; refine (rez_none p _ (rez_below HZ.out (by repeat (first | exact HB.out | exact Below.refl _ _ | apply below_alloc | apply below_drew | apply pw_below_drewN)))).mono ?_; rintro e w1 ⟨rfl, hb⟩; have n_ := Aside0.mk (show Below w.heap.size w w1 from below_step (by repeat (first | exact HB.out | exact Below.refl _ _ | apply below_alloc | apply below_drew | apply pw_below_drewN)) hb); clear HB hb; have HB := n_; clear n_)
  (first | go_ret | go_ret2 | go_ret3)
  exact ⟨rfl, (by repeat (first | exact HB.out | exact Below.refl _ _ | apply below_alloc | apply below_drew | apply pw_below_drewN))⟩
set_option maxHeartbeats 1000000 in
theorem rez_Born (p : Option Addr) (w : World) (h : rezNone p w) : Calls Try.prog 32 #[.pointer p] w fun e w' => e = .returned (.int .i64 7) ∧ Below w.heap.size w w' := by
  have HZ := Aside0.mk h
  have HB := Aside0.mk (Below.refl w.heap.size w)
  clear h
  go_enter Try.func32, Try.ntmps32
  go_wp2_with (go_at_call 61; refine (rez_none p _ (rez_below HZ.out (by repeat (first | exact HB.out | exact Below.refl _ _ | apply below_alloc | apply below_drew | apply pw_below_drewN)))).mono ?_; rintro e w1 ⟨rfl, hb⟩; have n_ := Aside0.mk (show Below w.heap.size w w1 from below_step (by repeat (first | exact HB.out | exact Below.refl _ _ | apply below_alloc | apply below_drew | apply pw_below_drewN)) hb); clear HB hb; have HB := n_; clear n_)
  (first | go_ret | go_ret2 | go_ret3)
  exact ⟨rfl, (by repeat (first | exact HB.out | exact Below.refl _ _ | apply below_alloc | apply below_drew | apply pw_below_drewN))⟩
set_option maxHeartbeats 1000000 in
theorem rez_Mark (p : Option Addr) (w : World) (h : rezNone p w) : Calls Try.prog 33 #[.pointer p] w fun e w' => e = .returned (.int .i64 0) ∧ Below w.heap.size w w' := by
  have HZ := Aside0.mk h
  have HB := Aside0.mk (Below.refl w.heap.size w)
  clear h
  go_enter Try.func33, Try.ntmps33
  go_wp2_with (go_at_call 61; refine (rez_none p _ (rez_below HZ.out (by repeat (first | exact HB.out | exact Below.refl _ _ | apply below_alloc | apply below_drew | apply pw_below_drewN)))).mono ?_; rintro e w1 ⟨rfl, hb⟩; have n_ := Aside0.mk (show Below w.heap.size w w1 from below_step (by repeat (first | exact HB.out | exact Below.refl _ _ | apply below_alloc | apply below_drew | apply pw_below_drewN)) hb); clear HB hb; have HB := n_; clear n_)
  (first | go_ret | go_ret2 | go_ret3)
  exact ⟨rfl, (by repeat (first | exact HB.out | exact Below.refl _ _ | apply below_alloc | apply below_drew | apply pw_below_drewN))⟩
set_option maxHeartbeats 1000000 in
theorem rez_Incarnation (p : Option Addr) (w : World) (h : rezNone p w) : Calls Try.prog 34 #[.pointer p] w fun e w' => e = .returned (.int .i64 0) ∧ Below w.heap.size w w' := by
  have HZ := Aside0.mk h
  have HB := Aside0.mk (Below.refl w.heap.size w)
  clear h
  go_enter Try.func34, Try.ntmps34
  go_wp2_with (go_at_call 61; refine (rez_none p _ (rez_below HZ.out (by repeat (first | exact HB.out | exact Below.refl _ _ | apply below_alloc | apply below_drew | apply pw_below_drewN)))).mono ?_; rintro e w1 ⟨rfl, hb⟩; have n_ := Aside0.mk (show Below w.heap.size w w1 from below_step (by repeat (first | exact HB.out | exact Below.refl _ _ | apply below_alloc | apply below_drew | apply pw_below_drewN)) hb); clear HB hb; have HB := n_; clear n_)
  (first | go_ret | go_ret2 | go_ret3)
  exact ⟨rfl, (by repeat (first | exact HB.out | exact Below.refl _ _ | apply below_alloc | apply below_drew | apply pw_below_drewN))⟩
set_option maxHeartbeats 1000000 in
theorem rez_Least (p : Option Addr) (w : World) (h : rezNone p w) : Calls Try.prog 35 #[.pointer p] w fun e w' => e = .returned (.int .i64 0) ∧ Below w.heap.size w w' := by
  have HZ := Aside0.mk h
  have HB := Aside0.mk (Below.refl w.heap.size w)
  clear h
  go_enter Try.func35, Try.ntmps35
  go_wp2_with (go_at_call 61; refine (rez_none p _ (rez_below HZ.out (by repeat (first | exact HB.out | exact Below.refl _ _ | apply below_alloc | apply below_drew | apply pw_below_drewN)))).mono ?_; rintro e w1 ⟨rfl, hb⟩; have n_ := Aside0.mk (show Below w.heap.size w w1 from below_step (by repeat (first | exact HB.out | exact Below.refl _ _ | apply below_alloc | apply below_drew | apply pw_below_drewN)) hb); clear HB hb; have HB := n_; clear n_)
  (first | go_ret | go_ret2 | go_ret3)
  exact ⟨rfl, (by repeat (first | exact HB.out | exact Below.refl _ _ | apply below_alloc | apply below_drew | apply pw_below_drewN))⟩
theorem reserve_open0 (a : Int) (w : World) : Calls Try.prog 30 #[.pointer none, .int .i64 a] w fun e w' => e = .returned (.tuple #[.pointer none, .int .i64 7]) ∧ Below w.heap.size w w' := by
  go_enter Try.func30, Try.ntmps30
  go_wp2
  go_ret2
  exact ⟨rfl, Below.refl _ _⟩
set_option maxHeartbeats 4000000 in
theorem ReserveZero : carillonlaw13_ReserveZero.Pure := by
  intro a w w1
  clear w1
  have hu := Try.underlying60
  go_enter Try.func6, Try.ntmps6
  go_wp2_with fail
  have hz : rezNone (some ⟨w.heap.size, 0, none⟩) (w.alloc (.cells #[Value.pointer none, Value.int IntKind.i64 0, Value.int IntKind.i64 0, Value.int IntKind.i64 0, Value.int IntKind.i64 0, Value.int IntKind.i64 0, Value.bool false] 60)) := .inr ⟨_, rfl, by simp⟩
  have hb : Below w.heap.size w (w.alloc (.cells #[Value.pointer none, Value.int IntKind.i64 0, Value.int IntKind.i64 0, Value.int IntKind.i64 0, Value.int IntKind.i64 0, Value.int IntKind.i64 0, Value.bool false] 60)) := (Below.refl _ w).alloc (Nat.le_refl _) _
  generalize (w.alloc (.cells #[Value.pointer none, Value.int IntKind.i64 0, Value.int IntKind.i64 0, Value.int IntKind.i64 0, Value.int IntKind.i64 0, Value.int IntKind.i64 0, Value.bool false] 60)) = W at hz hb ⊢
  have HZ := Aside0.mk hz
  have HB := Aside0.mk hb
  have HW := Aside0.mk (Below.refl W.heap.size W)
  clear hz hb
  refine (reserve_open0 _ _).mono ?_
  rintro e w1 ⟨rfl, hb⟩
  have n_ := Aside0.mk (below_step HB.out hb)
  have m_ := Aside0.mk (below_step HW.out hb)
  clear HB HW hb
  have HB := n_
  have HW := m_
  clear n_ m_
  go_wp2_with (first
    | (go_at_call 31; refine (rez_Take _ _ _ ?hz).mono ?_; (case hz => first | exact Or.inl rfl | exact rez_below HZ.out (by repeat (first | exact HW.out | exact Below.refl _ _))); rintro e w1 ⟨rfl, hb⟩; have n_ := Aside0.mk (below_step HB.out hb); have m_ := Aside0.mk (below_step HW.out hb); clear HB HW hb; have HB := n_; have HW := m_; clear n_ m_)
    | (go_at_call 32; refine (rez_Born _ _ ?hz).mono ?_; (case hz => first | exact Or.inl rfl | exact rez_below HZ.out (by repeat (first | exact HW.out | exact Below.refl _ _))); rintro e w1 ⟨rfl, hb⟩; have n_ := Aside0.mk (below_step HB.out hb); have m_ := Aside0.mk (below_step HW.out hb); clear HB HW hb; have HB := n_; have HW := m_; clear n_ m_)
    | (go_at_call 33; refine (rez_Mark _ _ ?hz).mono ?_; (case hz => first | exact Or.inl rfl | exact rez_below HZ.out (by repeat (first | exact HW.out | exact Below.refl _ _))); rintro e w1 ⟨rfl, hb⟩; have n_ := Aside0.mk (below_step HB.out hb); have m_ := Aside0.mk (below_step HW.out hb); clear HB HW hb; have HB := n_; have HW := m_; clear n_ m_)
    | (go_at_call 34; refine (rez_Incarnation _ _ ?hz).mono ?_; (case hz => first | exact Or.inl rfl | exact rez_below HZ.out (by repeat (first | exact HW.out | exact Below.refl _ _))); rintro e w1 ⟨rfl, hb⟩; have n_ := Aside0.mk (below_step HB.out hb); have m_ := Aside0.mk (below_step HW.out hb); clear HB HW hb; have HB := n_; have HW := m_; clear n_ m_)
    | (go_at_call 35; refine (rez_Least _ _ ?hz).mono ?_; (case hz => first | exact Or.inl rfl | exact rez_below HZ.out (by repeat (first | exact HW.out | exact Below.refl _ _))); rintro e w1 ⟨rfl, hb⟩; have n_ := Aside0.mk (below_step HB.out hb); have m_ := Aside0.mk (below_step HW.out hb); clear HB HW hb; have HB := n_; have HW := m_; clear n_ m_))
  go_ret
  exact ⟨rfl, HB.out⟩
end Go.Proofs.Ytifmknnbjbcnmaa.Pure
