/- Proved: carillonlaw12.BankZero returns true: banks that nobody made answer nothing. Conditions: none. -/
import Derived.Test.YtifmknnbjbcnmaaPBankZx1
import Derived.Test.YtifmknnbjbcnmaaX1Pure
namespace Go.Proofs.Ytifmknnbjbcnmaa.Pure
open Go.RowKit Go.Proofs.Ytifmknnbjbcnmaa.PBankZ Go.Proofs.YtifmknnbjbcnmaaW.PrintWords Go.Proofs.YtifmknnbjbcnmaaW.PrintLast Go.Proofs.YtifmknnbjbcnmaaW.PrintMore
set_option linter.unusedVariables false
set_option linter.unusedSimpArgs false
def bazNone (p : Option Addr) (w : World) : Prop := p = none ∨ ∃ B, p = some ⟨B, 0, none⟩ ∧ w.cell? ⟨B, 0, none⟩ = some (.pointer none)
theorem baz_below {p : Option Addr} {w w' : World} (h : bazNone p w) (hb : Below w.heap.size w w') : bazNone p w' := by
  rcases h with rfl | ⟨B, rfl, hc⟩
  · exact .inl rfl
  · exact .inr ⟨B, rfl, (hb.cell (World.block_lt_of_cell? w _ hc)).trans hc⟩
set_option maxRecDepth 100000 in
theorem baz_none (p : Option Addr) (w : World) (h : bazNone p w) : Calls Try.prog 41 #[.pointer p] w fun e w' => e = .returned (.bool true) ∧ Below w.heap.size w w' := by
  rcases h with rfl | ⟨B, rfl, hc⟩
  · go_enter Try.func41, Try.ntmps41
    go_wp2
    go_ret
    exact ⟨rfl, Below.refl _ _⟩
  · have hu := Try.underlying26
    go_enter Try.func41, Try.ntmps41
    go_wp2
    go_ret
    exact ⟨rfl, Below.refl _ _⟩
set_option maxHeartbeats 1000000 in
theorem baz_Load (p : Option Addr) (w : World) (h : bazNone p w) : Calls Try.prog 10 #[.pointer p] w fun e w' => e = .returned (.tuple #[.slice none 0 0, .int .i64 7]) ∧ Below w.heap.size w w' := by
  have HZ := Aside0.mk h
  have HB := Aside0.mk (Below.refl w.heap.size w)
  clear h
  go_enter Try.func10, Try.ntmps10
  go_wp2_with (go_at_call 41; refine (baz_none p _ (baz_below HZ.out (by repeat (first | exact HB.out | exact Below.refl _ _ | apply below_alloc | apply below_drew | apply pw_below_drewN)))).mono ?_; rintro e w1 ⟨rfl, hb⟩; have n_ := Aside0.mk (below_step (by repeat (first | exact HB.out | exact Below.refl _ _ | apply below_alloc | apply below_drew | apply pw_below_drewN)) hb); clear HB hb; have HB := n_; clear n_)
  (first | go_ret | go_ret2 | go_ret3)
  exact ⟨rfl, (by repeat (first | exact HB.out | exact Below.refl _ _ | apply below_alloc | apply below_drew | apply pw_below_drewN))⟩
set_option maxHeartbeats 1000000 in
theorem baz_Save (p : Option Addr) (A0 : Option Addr) (n0 c0 : Nat) (w : World) (h : bazNone p w) : Calls Try.prog 12 #[.pointer p, .slice A0 n0 c0] w fun e w' => e = .returned (.int .i64 7) ∧ Below w.heap.size w w' := by
  have HZ := Aside0.mk h
  have HB := Aside0.mk (Below.refl w.heap.size w)
  clear h
  go_enter Try.func12, Try.ntmps12
  go_wp2_with (go_at_call 41; refine (baz_none p _ (baz_below HZ.out (by repeat (first | exact HB.out | exact Below.refl _ _ | apply below_alloc | apply below_drew | apply pw_below_drewN)))).mono ?_; rintro e w1 ⟨rfl, hb⟩; have n_ := Aside0.mk (below_step (by repeat (first | exact HB.out | exact Below.refl _ _ | apply below_alloc | apply below_drew | apply pw_below_drewN)) hb); clear HB hb; have HB := n_; clear n_)
  (first | go_ret | go_ret2 | go_ret3)
  exact ⟨rfl, (by repeat (first | exact HB.out | exact Below.refl _ _ | apply below_alloc | apply below_drew | apply pw_below_drewN))⟩
set_option maxHeartbeats 1000000 in
theorem baz_Number (p : Option Addr) (w : World) (h : bazNone p w) : Calls Try.prog 13 #[.pointer p] w fun e w' => e = .returned (.int .u32 0) ∧ Below w.heap.size w w' := by
  have HZ := Aside0.mk h
  have HB := Aside0.mk (Below.refl w.heap.size w)
  clear h
  go_enter Try.func13, Try.ntmps13
  go_wp2_with (go_at_call 41; refine (baz_none p _ (baz_below HZ.out (by repeat (first | exact HB.out | exact Below.refl _ _ | apply below_alloc | apply below_drew | apply pw_below_drewN)))).mono ?_; rintro e w1 ⟨rfl, hb⟩; have n_ := Aside0.mk (below_step (by repeat (first | exact HB.out | exact Below.refl _ _ | apply below_alloc | apply below_drew | apply pw_below_drewN)) hb); clear HB hb; have HB := n_; clear n_)
  (first | go_ret | go_ret2 | go_ret3)
  exact ⟨rfl, (by repeat (first | exact HB.out | exact Below.refl _ _ | apply below_alloc | apply below_drew | apply pw_below_drewN))⟩
set_option maxHeartbeats 1000000 in
theorem baz_Size (p : Option Addr) (w : World) (h : bazNone p w) : Calls Try.prog 14 #[.pointer p] w fun e w' => e = .returned (.int .i64 0) ∧ Below w.heap.size w w' := by
  have HZ := Aside0.mk h
  have HB := Aside0.mk (Below.refl w.heap.size w)
  clear h
  go_enter Try.func14, Try.ntmps14
  go_wp2_with (go_at_call 41; refine (baz_none p _ (baz_below HZ.out (by repeat (first | exact HB.out | exact Below.refl _ _ | apply below_alloc | apply below_drew | apply pw_below_drewN)))).mono ?_; rintro e w1 ⟨rfl, hb⟩; have n_ := Aside0.mk (below_step (by repeat (first | exact HB.out | exact Below.refl _ _ | apply below_alloc | apply below_drew | apply pw_below_drewN)) hb); clear HB hb; have HB := n_; clear n_)
  (first | go_ret | go_ret2 | go_ret3)
  exact ⟨rfl, (by repeat (first | exact HB.out | exact Below.refl _ _ | apply below_alloc | apply below_drew | apply pw_below_drewN))⟩
set_option maxHeartbeats 1000000 in
theorem baz_Fresh (p : Option Addr) (w : World) (h : bazNone p w) : Calls Try.prog 15 #[.pointer p] w fun e w' => e = .returned (.bool false) ∧ Below w.heap.size w w' := by
  have HZ := Aside0.mk h
  have HB := Aside0.mk (Below.refl w.heap.size w)
  clear h
  go_enter Try.func15, Try.ntmps15
  go_wp2_with (go_at_call 41; refine (baz_none p _ (baz_below HZ.out (by repeat (first | exact HB.out | exact Below.refl _ _ | apply below_alloc | apply below_drew | apply pw_below_drewN)))).mono ?_; rintro e w1 ⟨rfl, hb⟩; have n_ := Aside0.mk (below_step (by repeat (first | exact HB.out | exact Below.refl _ _ | apply below_alloc | apply below_drew | apply pw_below_drewN)) hb); clear HB hb; have HB := n_; clear n_)
  (first | go_ret | go_ret2 | go_ret3)
  exact ⟨rfl, (by repeat (first | exact HB.out | exact Below.refl _ _ | apply below_alloc | apply below_drew | apply pw_below_drewN))⟩
theorem bank_new0 (a b : Int) (w : World) : Calls Try.prog 11 #[.pointer none, .int .i64 a, .int .i64 b] w fun e w' => e = .returned (.tuple #[.pointer none, .int .i64 7]) ∧ Below w.heap.size w w' := by
  go_enter Try.func11, Try.ntmps11
  go_wp2
  go_ret2
  exact ⟨rfl, Below.refl _ _⟩
set_option maxHeartbeats 4000000 in
theorem BankZero : carillonlaw12_BankZero.Pure := by
  intro A0 c0 l w hr0 hc0 hm y0 hw0
  obtain ⟨n, hn⟩ : ∃ n, l.length = n := ⟨_, rfl⟩
  rw [hn] at hc0 ⊢
  clear hr0 hc0 hm y0 hw0 hn
  have hu := Try.underlying26
  go_enter Try.func3, Try.ntmps3
  go_wp2_with fail
  have hz : bazNone (some ⟨w.heap.size, 0, none⟩) (w.alloc (.cells #[Value.pointer none, Value.int IntKind.i64 0, Value.int IntKind.i64 0] 26)) := .inr ⟨_, rfl, by simp⟩
  have hb : Below w.heap.size w (w.alloc (.cells #[Value.pointer none, Value.int IntKind.i64 0, Value.int IntKind.i64 0] 26)) := (Below.refl _ w).alloc (Nat.le_refl _) _
  generalize (w.alloc (.cells #[Value.pointer none, Value.int IntKind.i64 0, Value.int IntKind.i64 0] 26)) = W at hz hb ⊢
  have HZ := Aside0.mk hz
  have HB := Aside0.mk hb
  have HW := Aside0.mk (Below.refl W.heap.size W)
  clear hz hb
  refine (baz_Load none _ (.inl rfl)).mono ?_
  rintro e w1 ⟨rfl, hb⟩
  have n_ := Aside0.mk (below_step HB.out hb)
  have m_ := Aside0.mk (below_step HW.out hb)
  clear HB HW hb
  have HB := n_
  have HW := m_
  clear n_ m_
  go_wp2_with (first
    | (go_at_call 10; refine (baz_Load _ _ ?hz).mono ?_; (case hz => first | exact Or.inl rfl | exact baz_below HZ.out (by repeat (first | exact HW.out | exact Below.refl _ _))); rintro e w1 ⟨rfl, hb⟩; have n_ := Aside0.mk (below_step (by repeat (first | exact HB.out)) hb); have m_ := Aside0.mk (below_step (by repeat (first | exact HW.out | exact Below.refl _ _)) hb); clear HB HW hb; have HB := n_; have HW := m_; clear n_ m_)
    | (go_at_call 12; refine (baz_Save _ _ _ _ _ ?hz).mono ?_; (case hz => first | exact Or.inl rfl | exact baz_below HZ.out (by repeat (first | exact HW.out | exact Below.refl _ _))); rintro e w1 ⟨rfl, hb⟩; have n_ := Aside0.mk (below_step (by repeat (first | exact HB.out)) hb); have m_ := Aside0.mk (below_step (by repeat (first | exact HW.out | exact Below.refl _ _)) hb); clear HB HW hb; have HB := n_; have HW := m_; clear n_ m_)
    | (go_at_call 13; refine (baz_Number _ _ ?hz).mono ?_; (case hz => first | exact Or.inl rfl | exact baz_below HZ.out (by repeat (first | exact HW.out | exact Below.refl _ _))); rintro e w1 ⟨rfl, hb⟩; have n_ := Aside0.mk (below_step (by repeat (first | exact HB.out)) hb); have m_ := Aside0.mk (below_step (by repeat (first | exact HW.out | exact Below.refl _ _)) hb); clear HB HW hb; have HB := n_; have HW := m_; clear n_ m_)
    | (go_at_call 14; refine (baz_Size _ _ ?hz).mono ?_; (case hz => first | exact Or.inl rfl | exact baz_below HZ.out (by repeat (first | exact HW.out | exact Below.refl _ _))); rintro e w1 ⟨rfl, hb⟩; have n_ := Aside0.mk (below_step (by repeat (first | exact HB.out)) hb); have m_ := Aside0.mk (below_step (by repeat (first | exact HW.out | exact Below.refl _ _)) hb); clear HB HW hb; have HB := n_; have HW := m_; clear n_ m_)
    | (go_at_call 15; refine (baz_Fresh _ _ ?hz).mono ?_; (case hz => first | exact Or.inl rfl | exact baz_below HZ.out (by repeat (first | exact HW.out | exact Below.refl _ _))); rintro e w1 ⟨rfl, hb⟩; have n_ := Aside0.mk (below_step (by repeat (first | exact HB.out)) hb); have m_ := Aside0.mk (below_step (by repeat (first | exact HW.out | exact Below.refl _ _)) hb); clear HB HW hb; have HB := n_; have HW := m_; clear n_ m_)
    | (go_at_call 11; refine (bank_new0 _ _ _).mono ?_; rintro e w1 ⟨rfl, hb⟩; have n_ := Aside0.mk (below_step HB.out hb); have m_ := Aside0.mk (below_step HW.out hb); clear HB HW hb; have HB := n_; have HW := m_; clear n_ m_))
  go_ret
  exact ⟨rfl, HB.out⟩
end Go.Proofs.Ytifmknnbjbcnmaa.Pure
