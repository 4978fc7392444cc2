/- Proved: carillonlaw11.FlashZero returns true: a flash that nobody made answers nothing. Conditions: none. -/
import Derived.Test.YtaoiamifofkklaaPFlashZx1
import Derived.Test.YtaoiamifofkklaaX1Pure
namespace Go.Proofs.Ytaoiamifofkklaa.Pure
open Go.RowKit Go.Proofs.Ytaoiamifofkklaa.PFlashZ Go.Proofs.YtaoiamifofkklaaW.PrintWords Go.Proofs.YtaoiamifofkklaaW.PrintLast Go.Proofs.YtaoiamifofkklaaW.PrintMore
set_option linter.unusedVariables false
set_option linter.unusedSimpArgs false
/-- A flash that nobody made: no pointer, or one to a flash whose mark is not set. -/
def fzNone (p : Option Addr) (w : World) : Prop := p = none ∨ ∃ B, p = some ⟨B, 0, none⟩ ∧ w.cell? ⟨B, 6, none⟩ = some (.bool false)
theorem fz_none (p : Option Addr) (w : World) (h : fzNone p w) : Calls Try.prog 70 #[.pointer p] w fun e w' => e = .returned (.bool true) ∧ w' = w := by
  rcases h with rfl | ⟨B, rfl, hc⟩
  · go_enter Try.func70, Try.ntmps70
    go_wp2
    go_ret
    exact ⟨rfl, rfl⟩
  · have hu := Try.underlying66
    go_enter Try.func70, Try.ntmps70
    go_wp2
    go_ret
    exact ⟨rfl, rfl⟩
set_option maxHeartbeats 1000000 in
theorem fz_may (p : Option Addr) (a b : Int) (w : World) (h : fzNone p w) : Calls Try.prog 71 #[.pointer p, .int .i64 a, .int .i64 b] w fun e w' => e = .returned (.int .i64 7) ∧ w' = w := by
  have HZ := Aside0.mk h
  clear h
  go_enter Try.func71, Try.ntmps71
  go_wp2_with (go_at_call 70; refine (fz_none p  _ HZ.out).mono ?_; rintro e w1 ⟨rfl, rfl⟩)
  go_ret
  exact ⟨rfl, rfl⟩
set_option maxHeartbeats 1000000 in
theorem fz_read (p : Option Addr) (a b : Int) (w : World) (h : fzNone p w) : Calls Try.prog 26 #[.pointer p, .int .i64 a, .int .i64 b] w fun e w' => e = .returned (.tuple #[.slice none 0 0, .int .i64 7]) ∧ w' = w := by
  have HZ := Aside0.mk h
  clear h
  go_enter Try.func26, Try.ntmps26
  go_wp2_with (go_at_call 71; refine (fz_may p _ _ _ HZ.out).mono ?_; rintro e w1 ⟨rfl, rfl⟩)
  go_ret2
  exact ⟨rfl, rfl⟩
set_option maxHeartbeats 1000000 in
theorem fz_write (p : Option Addr) (a : Int) (A : Option Addr) (n c : Nat) (w : World) (h : fzNone p w) : Calls Try.prog 25 #[.pointer p, .int .i64 a, .slice A n c] w fun e w' => e = .returned (.int .i64 7) ∧ w' = w := by
  have HZ := Aside0.mk h
  clear h
  go_enter Try.func25, Try.ntmps25
  go_wp2_with (go_at_call 71; refine (fz_may p _ _ _ HZ.out).mono ?_; rintro e w1 ⟨rfl, rfl⟩)
  go_ret
  exact ⟨rfl, rfl⟩
set_option maxHeartbeats 1000000 in
theorem fz_tear (p : Option Addr) (a b : Int) (w : World) (h : fzNone p w) : Calls Try.prog 28 #[.pointer p, .int .i64 a, .int .i64 b] w fun e w' => (∃ v, e = .returned v) ∧ w' = w := by
  have HZ := Aside0.mk h
  clear h
  go_enter Try.func28, Try.ntmps28
  go_wp2_with (go_at_call 70; refine (fz_none p  _ HZ.out).mono ?_; rintro e w1 ⟨rfl, rfl⟩)
  (first | (refine bodyPost_ret (results_none rfl _ _ _) rfl ?_) | go_end0)
  exact ⟨⟨_, rfl⟩, rfl⟩
set_option maxHeartbeats 1000000 in
theorem fz_wake (p : Option Addr)  (w : World) (h : fzNone p w) : Calls Try.prog 30 #[.pointer p] w fun e w' => (∃ v, e = .returned v) ∧ w' = w := by
  have HZ := Aside0.mk h
  clear h
  go_enter Try.func30, Try.ntmps30
  go_wp2_with (go_at_call 70; refine (fz_none p  _ HZ.out).mono ?_; rintro e w1 ⟨rfl, rfl⟩)
  (first | (refine bodyPost_ret (results_none rfl _ _ _) rfl ?_) | go_end0)
  exact ⟨⟨_, rfl⟩, rfl⟩
set_option maxHeartbeats 1000000 in
theorem fz_len (p : Option Addr)  (w : World) (h : fzNone p w) : Calls Try.prog 40 #[.pointer p] w fun e w' => e = .returned (.int .i64 0) ∧ w' = w := by
  have HZ := Aside0.mk h
  clear h
  go_enter Try.func40, Try.ntmps40
  go_wp2_with (go_at_call 70; refine (fz_none p  _ HZ.out).mono ?_; rintro e w1 ⟨rfl, rfl⟩)
  go_ret
  exact ⟨rfl, rfl⟩
set_option maxHeartbeats 1000000 in
theorem fz_dead (p : Option Addr)  (w : World) (h : fzNone p w) : Calls Try.prog 29 #[.pointer p] w fun e w' => e = .returned (.bool false) ∧ w' = w := by
  have HZ := Aside0.mk h
  clear h
  go_enter Try.func29, Try.ntmps29
  go_wp2_with (go_at_call 70; refine (fz_none p  _ HZ.out).mono ?_; rintro e w1 ⟨rfl, rfl⟩)
  go_ret
  exact ⟨rfl, rfl⟩
set_option maxHeartbeats 1000000 in
theorem fz_writes (p : Option Addr)  (w : World) (h : fzNone p w) : Calls Try.prog 41 #[.pointer p] w fun e w' => e = .returned (.int .i64 0) ∧ w' = w := by
  have HZ := Aside0.mk h
  clear h
  go_enter Try.func41, Try.ntmps41
  go_wp2_with (go_at_call 70; refine (fz_none p  _ HZ.out).mono ?_; rintro e w1 ⟨rfl, rfl⟩)
  go_ret
  exact ⟨rfl, rfl⟩
set_option maxHeartbeats 1000000 in
theorem fz_copy (p : Option Addr)  (w : World) (h : fzNone p w) : Calls Try.prog 24 #[.pointer p] w fun e w' => e = .returned (.pointer none) ∧ w' = w := by
  have HZ := Aside0.mk h
  clear h
  go_enter Try.func24, Try.ntmps24
  go_wp2_with (go_at_call 70; refine (fz_none p  _ HZ.out).mono ?_; rintro e w1 ⟨rfl, rfl⟩)
  go_ret
  exact ⟨rfl, rfl⟩
set_option maxHeartbeats 4000000 in
theorem FlashZero : carillonlaw11_FlashZero.Pure := by
  intro A0 c0 l a w hr0 hc0 hm y0 hw0 w1
  obtain ⟨n, hn⟩ : ∃ n, l.length = n := ⟨_, rfl⟩
  rw [hn] at hc0 ⊢
  clear hr0 hc0 hm y0 hw0 w1 hn
  have hu := Try.underlying66
  go_enter Try.func8, Try.ntmps8
  go_wp2_with fail
  have hz : fzNone (some ⟨w.heap.size, 0, none⟩) (w.alloc (.cells #[.slice none 0 0, .bool false, .int .i64 0, .int .i64 0, .bool false, .int .i64 0, .bool false] 66)) := .inr ⟨_, rfl, by simp⟩
  have hb : Below w.heap.size w (w.alloc (.cells #[.slice none 0 0, .bool false, .int .i64 0, .int .i64 0, .bool false, .int .i64 0, .bool false] 66)) := (Below.refl _ w).alloc (Nat.le_refl _) _
  generalize (w.alloc (.cells #[.slice none 0 0, .bool false, .int .i64 0, .int .i64 0, .bool false, .int .i64 0, .bool false] 66)) = W at hz hb ⊢
  have HZ := Aside0.mk hz
  have HB := Aside0.mk hb
  clear hz hb
  refine (fz_read _ _ _ _ (.inl rfl)).mono ?_
  rintro e w1 ⟨rfl, rfl⟩
  go_wp2_with (first
    | (go_at_call 26; refine (fz_read _ _ _  _ ?hz).mono ?_; (case hz => first | exact Or.inl rfl | exact HZ.out); rintro e w1 ⟨rfl, rfl⟩)
    | (go_at_call 28; refine (fz_tear _ _ _  _ ?hz).mono ?_; (case hz => first | exact Or.inl rfl | exact HZ.out); rintro e w1 ⟨⟨v, rfl⟩, rfl⟩)
    | (go_at_call 30; refine (fz_wake _  _ ?hz).mono ?_; (case hz => first | exact Or.inl rfl | exact HZ.out); rintro e w1 ⟨⟨v, rfl⟩, rfl⟩)
    | (go_at_call 25; refine (fz_write _ _ _ _ _  _ ?hz).mono ?_; (case hz => first | exact Or.inl rfl | exact HZ.out); rintro e w1 ⟨rfl, rfl⟩)
    | (go_at_call 40; refine (fz_len _  _ ?hz).mono ?_; (case hz => first | exact Or.inl rfl | exact HZ.out); rintro e w1 ⟨rfl, rfl⟩)
    | (go_at_call 29; refine (fz_dead _  _ ?hz).mono ?_; (case hz => first | exact Or.inl rfl | exact HZ.out); rintro e w1 ⟨rfl, rfl⟩)
    | (go_at_call 41; refine (fz_writes _  _ ?hz).mono ?_; (case hz => first | exact Or.inl rfl | exact HZ.out); rintro e w1 ⟨rfl, rfl⟩)
    | (go_at_call 24; refine (fz_copy _  _ ?hz).mono ?_; (case hz => first | exact Or.inl rfl | exact HZ.out); rintro e w1 ⟨rfl, rfl⟩))
  go_ret
  exact ⟨rfl, HB.out⟩
end Go.Proofs.Ytaoiamifofkklaa.Pure
