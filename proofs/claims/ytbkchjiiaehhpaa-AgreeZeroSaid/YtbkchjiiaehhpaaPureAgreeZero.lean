/- Proved: carillonlaw27.AgreeZero returns true: a node that nobody made agrees on nothing. Conditions: none. -/
import Derived.Test.YtbkchjiiaehhpaaPAgreeZx1
import Derived.Test.YtbkchjiiaehhpaaX1Pure
import Derived.WalkSpells
namespace Go.Proofs.Ytbkchjiiaehhpaa.Pure
open Go.RowKit Go.Proofs.Ytbkchjiiaehhpaa.PAgreeZ Go.Proofs.YtbkchjiiaehhpaaW.PrintWords Go.Proofs.YtbkchjiiaehhpaaW.PrintLast Go.Proofs.YtbkchjiiaehhpaaW.PrintMore
set_option linter.unusedVariables false
set_option linter.unusedSimpArgs false
def agzNone (p : Option Addr) (w : World) : Prop := p = none ∨ ∃ B, p = some ⟨B, 0, none⟩ ∧ w.cell? ⟨B, 11, none⟩ = some (.map none)
theorem agz_below {p : Option Addr} {w w' : World} (h : agzNone p w) (hb : Below w.heap.size w w') : agzNone p w' := by
  rcases h with rfl | ⟨B, rfl, hc⟩
  · exact .inl rfl
  · exact .inr ⟨B, rfl, (hb.cell (World.block_lt_of_cell? w _ hc)).trans hc⟩
set_option maxRecDepth 100000 in
theorem agz_none (p : Option Addr) (w : World) (h : agzNone p w) : Calls Try.prog 87 #[.pointer p] w fun e w' => e = .returned (.bool true) ∧ Below w.heap.size w w' := by
  rcases h with rfl | ⟨B, rfl, hc⟩
  · go_enter Try.func87, Try.ntmps87
    go_wp2
    go_ret
    exact ⟨rfl, Below.refl _ _⟩
  · have hu := Try.underlying63
    have hm := run_eql_map_nil (P := Try.prog) w _ _ _ none Try.underlying61
    go_enter Try.func87, Try.ntmps87
    go_wp2
    go_ret
    exact ⟨rfl, Below.refl _ _⟩
set_option maxHeartbeats 1000000 in
theorem agz_Commit (p : Option Addr) (a0 : Int) (w : World) (h : agzNone p w) : Calls Try.prog 37 #[.pointer p, .int .i64 a0] w fun e w' => e = .returned (.tuple #[.int .i64 0, .bool false, .int .i64 7]) ∧ Below w.heap.size w w' := by
  have HZ := Aside0.mk h
  have HB := Aside0.mk (Below.refl w.heap.size w)
  clear h
  go_enter Try.func37, Try.ntmps37
  go_wp2_with (go_at_call 87; refine (agz_none p _ (agz_below HZ.out (by repeat (first | exact HB.out | exact Below.refl _ _ | apply below_alloc | apply below_drew | apply pw_below_drewN)))).mono ?_; rintro e w1 ⟨rfl, hb⟩; have n_ := Aside0.mk (below_step (by repeat (first | exact HB.out | exact Below.refl _ _ | apply below_alloc | apply below_drew | apply pw_below_drewN)) hb); clear HB hb; have HB := n_; clear n_)
  (first | go_ret | go_ret2 | go_ret3)
  exact ⟨rfl, (by repeat (first | exact HB.out | exact Below.refl _ _ | apply below_alloc | apply below_drew | apply pw_below_drewN))⟩
set_option maxHeartbeats 1000000 in
theorem agz_Last (p : Option Addr) (w : World) (h : agzNone p w) : Calls Try.prog 38 #[.pointer p] w fun e w' => e = .returned (.tuple #[.int .i64 (-1), .int .i64 0]) ∧ Below w.heap.size w w' := by
  have HZ := Aside0.mk h
  have HB := Aside0.mk (Below.refl w.heap.size w)
  clear h
  go_enter Try.func38, Try.ntmps38
  go_wp2_with (go_at_call 87; refine (agz_none p _ (agz_below HZ.out (by repeat (first | exact HB.out | exact Below.refl _ _ | apply below_alloc | apply below_drew | apply pw_below_drewN)))).mono ?_; rintro e w1 ⟨rfl, hb⟩; have n_ := Aside0.mk (below_step (by repeat (first | exact HB.out | exact Below.refl _ _ | apply below_alloc | apply below_drew | apply pw_below_drewN)) hb); clear HB hb; have HB := n_; clear n_)
  (first | go_ret | go_ret2 | go_ret3)
  exact ⟨rfl, (by repeat (first | exact HB.out | exact Below.refl _ _ | apply below_alloc | apply below_drew | apply pw_below_drewN))⟩
set_option maxHeartbeats 1000000 in
theorem agz_Hear (p : Option Addr) (a0 : Int) (a1 : Int) (a2 : Int) (w : World) (h : agzNone p w) : Calls Try.prog 39 #[.pointer p, .int .i64 a0, .int .i64 a1, .int .i64 a2] w fun e w' => e = .returned (.int .i64 7) ∧ Below w.heap.size w w' := by
  have HZ := Aside0.mk h
  have HB := Aside0.mk (Below.refl w.heap.size w)
  clear h
  go_enter Try.func39, Try.ntmps39
  go_wp2_with (go_at_call 87; refine (agz_none p _ (agz_below HZ.out (by repeat (first | exact HB.out | exact Below.refl _ _ | apply below_alloc | apply below_drew | apply pw_below_drewN)))).mono ?_; rintro e w1 ⟨rfl, hb⟩; have n_ := Aside0.mk (below_step (by repeat (first | exact HB.out | exact Below.refl _ _ | apply below_alloc | apply below_drew | apply pw_below_drewN)) hb); clear HB hb; have HB := n_; clear n_)
  (first | go_ret | go_ret2 | go_ret3)
  exact ⟨rfl, (by repeat (first | exact HB.out | exact Below.refl _ _ | apply below_alloc | apply below_drew | apply pw_below_drewN))⟩
set_option maxHeartbeats 1000000 in
theorem agz_View (p : Option Addr) (a0 : Int) (w : World) (h : agzNone p w) : Calls Try.prog 40 #[.pointer p, .int .i64 a0] w fun e w' => e = .returned (.int .i64 0) ∧ Below w.heap.size w w' := by
  have HZ := Aside0.mk h
  have HB := Aside0.mk (Below.refl w.heap.size w)
  clear h
  go_enter Try.func40, Try.ntmps40
  go_wp2_with (go_at_call 87; refine (agz_none p _ (agz_below HZ.out (by repeat (first | exact HB.out | exact Below.refl _ _ | apply below_alloc | apply below_drew | apply pw_below_drewN)))).mono ?_; rintro e w1 ⟨rfl, hb⟩; have n_ := Aside0.mk (below_step (by repeat (first | exact HB.out | exact Below.refl _ _ | apply below_alloc | apply below_drew | apply pw_below_drewN)) hb); clear HB hb; have HB := n_; clear n_)
  (first | go_ret | go_ret2 | go_ret3)
  exact ⟨rfl, (by repeat (first | exact HB.out | exact Below.refl _ _ | apply below_alloc | apply below_drew | apply pw_below_drewN))⟩
set_option maxHeartbeats 1000000 in
theorem agz_Votes (p : Option Addr) (a0 : Int) (a1 : Int) (w : World) (h : agzNone p w) : Calls Try.prog 41 #[.pointer p, .int .i64 a0, .int .i64 a1] w fun e w' => e = .returned (.int .i64 0) ∧ Below w.heap.size w w' := by
  have HZ := Aside0.mk h
  have HB := Aside0.mk (Below.refl w.heap.size w)
  clear h
  go_enter Try.func41, Try.ntmps41
  go_wp2_with (go_at_call 87; refine (agz_none p _ (agz_below HZ.out (by repeat (first | exact HB.out | exact Below.refl _ _ | apply below_alloc | apply below_drew | apply pw_below_drewN)))).mono ?_; rintro e w1 ⟨rfl, hb⟩; have n_ := Aside0.mk (below_step (by repeat (first | exact HB.out | exact Below.refl _ _ | apply below_alloc | apply below_drew | apply pw_below_drewN)) hb); clear HB hb; have HB := n_; clear n_)
  (first | go_ret | go_ret2 | go_ret3)
  exact ⟨rfl, (by repeat (first | exact HB.out | exact Below.refl _ _ | apply below_alloc | apply below_drew | apply pw_below_drewN))⟩
set_option maxHeartbeats 1000000 in
theorem agz_Clean (p : Option Addr) (a0 : Int) (w : World) (h : agzNone p w) : Calls Try.prog 42 #[.pointer p, .int .i64 a0] w fun e w' => e = .returned (.int .i64 0) ∧ Below w.heap.size w w' := by
  have HZ := Aside0.mk h
  have HB := Aside0.mk (Below.refl w.heap.size w)
  clear h
  go_enter Try.func42, Try.ntmps42
  go_wp2_with (go_at_call 87; refine (agz_none p _ (agz_below HZ.out (by repeat (first | exact HB.out | exact Below.refl _ _ | apply below_alloc | apply below_drew | apply pw_below_drewN)))).mono ?_; rintro e w1 ⟨rfl, hb⟩; have n_ := Aside0.mk (below_step (by repeat (first | exact HB.out | exact Below.refl _ _ | apply below_alloc | apply below_drew | apply pw_below_drewN)) hb); clear HB hb; have HB := n_; clear n_)
  (first | go_ret | go_ret2 | go_ret3)
  exact ⟨rfl, (by repeat (first | exact HB.out | exact Below.refl _ _ | apply below_alloc | apply below_drew | apply pw_below_drewN))⟩
set_option maxHeartbeats 4000000 in
theorem AgreeZero : carillonlaw27_AgreeZero.Pure := by
  intro a w w1
  clear w1
  have hu := Try.underlying63
  go_enter Try.func9, Try.ntmps9
  go_wp2_with fail
  have hz : agzNone (some ⟨w.heap.size, 0, none⟩) (w.alloc (.cells #[Value.int IntKind.i64 0, Value.int IntKind.i64 0, Value.int IntKind.i64 0, Value.int IntKind.i64 0, Value.int IntKind.i64 0, Value.int IntKind.i64 0, Value.int IntKind.i64 0, Value.int IntKind.i64 0, Value.int IntKind.i64 0, Value.int IntKind.i64 0, Value.int IntKind.i64 0, Value.map none, Value.int IntKind.i64 0, Value.int IntKind.i64 0, Value.int IntKind.i64 0] 63)) := .inr ⟨_, rfl, by simp⟩
  have hb : Below w.heap.size w (w.alloc (.cells #[Value.int IntKind.i64 0, Value.int IntKind.i64 0, Value.int IntKind.i64 0, Value.int IntKind.i64 0, Value.int IntKind.i64 0, Value.int IntKind.i64 0, Value.int IntKind.i64 0, Value.int IntKind.i64 0, Value.int IntKind.i64 0, Value.int IntKind.i64 0, Value.int IntKind.i64 0, Value.map none, Value.int IntKind.i64 0, Value.int IntKind.i64 0, Value.int IntKind.i64 0] 63)) := (Below.refl _ w).alloc (Nat.le_refl _) _
  generalize (w.alloc (.cells #[Value.int IntKind.i64 0, Value.int IntKind.i64 0, Value.int IntKind.i64 0, Value.int IntKind.i64 0, Value.int IntKind.i64 0, Value.int IntKind.i64 0, Value.int IntKind.i64 0, Value.int IntKind.i64 0, Value.int IntKind.i64 0, Value.int IntKind.i64 0, Value.int IntKind.i64 0, Value.map none, Value.int IntKind.i64 0, Value.int IntKind.i64 0, Value.int IntKind.i64 0] 63)) = W at hz hb ⊢
  have HZ := Aside0.mk hz
  have HB := Aside0.mk hb
  have HW := Aside0.mk (Below.refl W.heap.size W)
  clear hz hb
  refine (agz_Commit none _ _ (.inl rfl)).mono ?_
  rintro e w1 ⟨rfl, hb⟩
  have n_ := Aside0.mk (below_step HB.out hb)
  have m_ := Aside0.mk (below_step HW.out hb)
  clear HB HW hb
  have HB := n_
  have HW := m_
  clear n_ m_
  go_wp2_with (first
    | (go_at_call 37; refine (agz_Commit _ _ _ ?hz).mono ?_; (case hz => first | exact Or.inl rfl | exact agz_below HZ.out (by repeat (first | exact HW.out | exact Below.refl _ _))); rintro e w1 ⟨rfl, hb⟩; have n_ := Aside0.mk (below_step (by repeat (first | exact HB.out)) hb); have m_ := Aside0.mk (below_step (by repeat (first | exact HW.out | exact Below.refl _ _)) hb); clear HB HW hb; have HB := n_; have HW := m_; clear n_ m_)
    | (go_at_call 38; refine (agz_Last _ _ ?hz).mono ?_; (case hz => first | exact Or.inl rfl | exact agz_below HZ.out (by repeat (first | exact HW.out | exact Below.refl _ _))); rintro e w1 ⟨rfl, hb⟩; have n_ := Aside0.mk (below_step (by repeat (first | exact HB.out)) hb); have m_ := Aside0.mk (below_step (by repeat (first | exact HW.out | exact Below.refl _ _)) hb); clear HB HW hb; have HB := n_; have HW := m_; clear n_ m_)
    | (go_at_call 39; refine (agz_Hear _ _ _ _ _ ?hz).mono ?_; (case hz => first | exact Or.inl rfl | exact agz_below HZ.out (by repeat (first | exact HW.out | exact Below.refl _ _))); rintro e w1 ⟨rfl, hb⟩; have n_ := Aside0.mk (below_step (by repeat (first | exact HB.out)) hb); have m_ := Aside0.mk (below_step (by repeat (first | exact HW.out | exact Below.refl _ _)) hb); clear HB HW hb; have HB := n_; have HW := m_; clear n_ m_)
    | (go_at_call 40; refine (agz_View _ _ _ ?hz).mono ?_; (case hz => first | exact Or.inl rfl | exact agz_below HZ.out (by repeat (first | exact HW.out | exact Below.refl _ _))); rintro e w1 ⟨rfl, hb⟩; have n_ := Aside0.mk (below_step (by repeat (first | exact HB.out)) hb); have m_ := Aside0.mk (below_step (by repeat (first | exact HW.out | exact Below.refl _ _)) hb); clear HB HW hb; have HB := n_; have HW := m_; clear n_ m_)
    | (go_at_call 41; refine (agz_Votes _ _ _ _ ?hz).mono ?_; (case hz => first | exact Or.inl rfl | exact agz_below HZ.out (by repeat (first | exact HW.out | exact Below.refl _ _))); rintro e w1 ⟨rfl, hb⟩; have n_ := Aside0.mk (below_step (by repeat (first | exact HB.out)) hb); have m_ := Aside0.mk (below_step (by repeat (first | exact HW.out | exact Below.refl _ _)) hb); clear HB HW hb; have HB := n_; have HW := m_; clear n_ m_)
    | (go_at_call 42; refine (agz_Clean _ _ _ ?hz).mono ?_; (case hz => first | exact Or.inl rfl | exact agz_below HZ.out (by repeat (first | exact HW.out | exact Below.refl _ _))); rintro e w1 ⟨rfl, hb⟩; have n_ := Aside0.mk (below_step (by repeat (first | exact HB.out)) hb); have m_ := Aside0.mk (below_step (by repeat (first | exact HW.out | exact Below.refl _ _)) hb); clear HB HW hb; have HB := n_; have HW := m_; clear n_ m_))
  go_ret
  exact ⟨rfl, HB.out⟩
end Go.Proofs.Ytbkchjiiaehhpaa.Pure
