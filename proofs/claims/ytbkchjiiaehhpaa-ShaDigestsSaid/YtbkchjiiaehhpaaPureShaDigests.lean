/- Proved: carillonlaw02.ShaDigests returns true: any bytes' digest. Conditions: none. -/
import Derived.Test.YtbkchjiiaehhpaaPShaHx2
import Derived.Test.YtbkchjiiaehhpaaX1Pure
import Derived.Test.YtbkchjiiaehhpaaXShaJ
namespace Go.Proofs.Ytbkchjiiaehhpaa.Pure
open Go.RowKit Go.Proofs.Ytbkchjiiaehhpaa.PShaH Go.Proofs.YtbkchjiiaehhpaaW.PrintWords Go.Proofs.YtbkchjiiaehhpaaW.PrintLast Go.Proofs.YtbkchjiiaehhpaaW.PrintMore
set_option linter.unusedVariables false
set_option linter.unusedSimpArgs false
open Go.Proofs.Ytbkchjiiaehhpaa.Obj
set_option maxHeartbeats 8000000 in
set_option maxRecDepth 100000 in
theorem rf_of_long (A : Option Addr) (m c : Nat) (w : World) (hm : 1048576 < m) (hmm : m ≤ 140737488351232) :
    Calls Try.prog 17 #[.slice A m c] w fun e w' => e = .returned (.tuple #[.slice none 0 0, .int .i64 2]) ∧ Below w.heap.size w w' := by
  have hi : (1048576 : Int) < (m : Int) := by omega
  clear hm hmm
  go_enter Try.func17, Try.ntmps17
  go_wp2_with fail
  go_ret2
  exact ⟨rfl, Below.refl _ _⟩
set_option maxHeartbeats 8000000 in
set_option maxRecDepth 100000 in
theorem ShaDigests : carillonlaw02_ShaDigests.Pure := by
  intro A0 c0 l w hr0 hc0 hm y0 hw0
  have hb := IsB.wf hw0
  obtain ⟨m, hn⟩ : ∃ n, l.length = n := ⟨_, rfl⟩
  have hlim : m ≤ 140737488351232 := by omega
  rw [hn] at hr0 hc0 ⊢
  have HR0 := Aside0.mk hr0
  have HC0 := Aside0.mk hc0
  have HX0 := Aside0.mk hb
  have HLIM := Aside0.mk hlim
  clear hr0 hc0 hm y0 hw0 hb hn
  by_cases h1 : 5000 < m
  · by_cases h2 : m ≤ 1048576
    · have i1 : (5000 : Int) < (m : Int) := by omega
      have i2 : (m : Int) ≤ 1048576 := by omega
      clear h1 h2 hlim
      go_enter Try.func3, Try.ntmps3
      go_wp2_with (go_at_call 15; (with_reducible refine (sh_awake _).mono ?_); rintro e w1 ⟨rfl, hb⟩; have HB1 := Aside0.mk hb; clear hb)
      go_ret
      exact ⟨rfl, HB1.out⟩
    · have i1 : (5000 : Int) < (m : Int) := by omega
      have i2 : ¬ (m : Int) ≤ 1048576 := by omega
      have HM := Aside0.mk (Nat.lt_of_not_le h2)
      clear h1 h2 hlim
      go_enter Try.func3, Try.ntmps3
      go_wp2_with (first
        | (go_at_call 15; (with_reducible refine (sh_awake _).mono ?_); rintro e w1 ⟨rfl, hb⟩; have HB3 := Aside0.mk hb; clear hb)
        | (go_at_call 16; (with_reducible refine (sh_of_long A0 m c0 _ HM.out HLIM.out).mono ?_); rintro e w1 ⟨rfl, hb⟩; have HB1 := Aside0.mk hb; clear hb)
        | (go_at_call 17; (with_reducible refine (rf_of_long A0 m c0 _ HM.out HLIM.out).mono ?_); rintro e w2 ⟨rfl, hb⟩; have HB2 := Aside0.mk hb; clear hb; have hs := own_string (P := Try.prog) (dst := 9) Try.underlying22 Try.underlying5 Try.underlying9 (Kd.own_of_R (h1 := fun _ => rfl) (enc := Value.int .u8) (Kd.R_nil _ 5 w2 0 (fun _ => True)))))
      go_ret
      exact ⟨rfl, below_step HB1.out (below_step HB2.out HB3.out)⟩
  · have i1 : ¬ (5000 : Int) < (m : Int) := by omega
    have HM := Aside0.mk (show m ≤ 1048576 by omega)
    clear h1 hlim
    go_enter Try.func3, Try.ntmps3
    go_wp2_with (first
      | (go_at_call 15; (with_reducible refine (sh_awake _).mono ?_); rintro e w1 ⟨rfl, hb⟩; have HB3 := Aside0.mk hb; clear hb)
      | (go_at_call 16; (with_reducible refine (sh_of A0 m c0 l _ HR0.out HX0.out HC0.out HM.out).mono ?_); rintro e w1 ⟨v1, rfl, hR, hb⟩; have HR1 := Aside0.mk hR; have HB1 := Aside0.mk hb; clear hR hb)
      | (go_at_call 17; (with_reducible refine (rf_of A0 m c0 l _ (Kd.C_below HR0.out HB1.out) HX0.out HM.out).mono ?_); rintro e w2 ⟨v2, rfl, hR, hb⟩; rw [dig_same] at hR; have HB2 := Aside0.mk hb; have hs1 := own_string (P := Try.prog) (dst := 9) Try.underlying22 Try.underlying5 Try.underlying9 (Kd.own_of_R (Kd.R_below HR1.out hb)); have hs2 := own_string (P := Try.prog) (dst := 9) Try.underlying22 Try.underlying5 Try.underlying9 (Kd.own_of_R hR); obtain ⟨s, hs⟩ : ∃ s, strOfNums (digP l) = s := ⟨_, rfl⟩; rw [hs] at hs1 hs2; clear hs hR hb))
    go_ret
    exact ⟨rfl, below_step HB1.out (below_step HB2.out HB3.out)⟩
end Go.Proofs.Ytbkchjiiaehhpaa.Pure
