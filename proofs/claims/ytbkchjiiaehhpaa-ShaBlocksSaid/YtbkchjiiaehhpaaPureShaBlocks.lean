/- Proved: carillonlaw02.ShaBlocks returns true: one block, from any state. Conditions: none. -/
import Derived.Test.YtbkchjiiaehhpaaPShaHx2
import Derived.Test.YtbkchjiiaehhpaaX1Pure
import Derived.Test.YtbkchjiiaehhpaaXShaK
namespace Go.Proofs.Ytbkchjiiaehhpaa.Pure
open Go.RowKit Go.Proofs.Ytbkchjiiaehhpaa.PShaH Go.Proofs.YtbkchjiiaehhpaaW.PrintWords Go.Proofs.YtbkchjiiaehhpaaW.PrintLast Go.Proofs.YtbkchjiiaehhpaaW.PrintMore
set_option linter.unusedVariables false
set_option linter.unusedSimpArgs false
open Go.Proofs.Ytbkchjiiaehhpaa.Obj
theorem x_wfu {n : Int} (h : (Lit.int .u32 n).wf = true) : ∃ b : BitVec 32, n = (b.toNat : Int) := by
  have hq : 0 ≤ n ∧ n < 4294967296 := by
    simp [Lit.wf, IntKind.min, IntKind.max, IntKind.signed, IntKind.bits] at h
    omega
  exact ⟨BitVec.ofNat 32 n.toNat, by rw [BitVec.toNat_ofNat, Nat.mod_eq_of_lt (by omega)]; omega⟩
theorem w8_of (l : List Int) (hl : l.length = 8) (hw : ∀ x ∈ l, (Lit.int .u32 x).wf = true) : ∃ s, l = w8I s := by
  match l, hl, hw with
  | [x0, x1, x2, x3, x4, x5, x6, x7], _, hw =>
    obtain ⟨b0, rfl⟩ := x_wfu (hw x0 (by simp))
    obtain ⟨b1, rfl⟩ := x_wfu (hw x1 (by simp))
    obtain ⟨b2, rfl⟩ := x_wfu (hw x2 (by simp))
    obtain ⟨b3, rfl⟩ := x_wfu (hw x3 (by simp))
    obtain ⟨b4, rfl⟩ := x_wfu (hw x4 (by simp))
    obtain ⟨b5, rfl⟩ := x_wfu (hw x5 (by simp))
    obtain ⟨b6, rfl⟩ := x_wfu (hw x6 (by simp))
    obtain ⟨b7, rfl⟩ := x_wfu (hw x7 (by simp))
    exact ⟨⟨b0, b1, b2, b3, b4, b5, b6, b7⟩, rfl⟩
theorem nil_C (W : World) : Kd.C (Kd.int .u32) W none 0 [] := Kd.C_of_reads (d := (0 : Int)) (h1 := fun _ => rfl) ⟨rfl, by simp, fun h => by simp at h⟩
set_option maxHeartbeats 8000000 in
set_option maxRecDepth 100000 in
theorem ShaBlocks : carillonlaw02_ShaBlocks.Pure := by
  intro A0 c0 l0 A1 c1 l1 w hr0 hc0 hm0 y0 hw0 hr1 hc1 hm1 y1 hw1
  have hb := IsB.wf hw1
  obtain ⟨m0, hn0⟩ : ∃ n, l0.length = n := ⟨_, rfl⟩
  obtain ⟨m1, hn1⟩ : ∃ n, l1.length = n := ⟨_, rfl⟩
  rw [hn0] at hr0 hc0 ⊢
  rw [hn1] at hr1 hc1 ⊢
  by_cases hz : m0 = 8 ∧ m1 = 64
  · obtain ⟨rfl, rfl⟩ := hz
    obtain ⟨s, rfl⟩ := w8_of l0 hn0 hw0
    have HR0 := Aside0.mk hr0
    have HR1 := Aside0.mk hr1
    have HC0 := Aside0.mk hc0
    have HC1 := Aside0.mk hc1
    have HX := Aside0.mk hb
    clear hr0 hr1 hc0 hc1 hm0 hm1 y0 y1 hw0 hw1 hb hn0 hn1
    obtain ⟨r, hr⟩ : ∃ r, mixF KT l1 s = r := ⟨_, rfl⟩
    have HR := Aside0.mk hr
    clear hr
    go_enter Try.func6, Try.ntmps6
    go_wp2_with (first
      | (go_at_call 26; (with_reducible refine (sh_Block s A0 A1 c0 c1 l1 _ HX.out HR0.out HC0.out HR1.out HC1.out).mono ?_); rintro e w1 ⟨v1, rfl, hR, hb⟩; rw [HR.out] at hR; obtain ⟨B1, k1, rfl, _, hC⟩ := Kd.R_reads hR; have hl : (w8I r).length = 8 := rfl; rw [hl] at hC ⊢; have HW1 := Aside0.mk hC; have HB1 := Aside0.mk hb; clear hR hb hC hl)
      | (go_at_call 27; (with_reducible refine (rf_block s A0 A1 c0 c1 l1 _ HX.out (Kd.C_below HR0.out HB1.out) HC0.out (Kd.C_below HR1.out HB1.out) HC1.out).mono ?_); rintro e w2 ⟨v2, rfl, hR, hb⟩; rw [HR.out] at hR; obtain ⟨B2, k2, rfl, _, hC⟩ := Kd.R_reads hR; have hl : (w8I r).length = 8 := rfl; rw [hl] at hC ⊢; have HW2 := Aside0.mk hC; have HB2 := Aside0.mk hb; clear hR hb hC hl)
      | (go_at_call 23; (with_reducible refine (words_same B1 B2 8 k1 k2 (w8I r) _ (Kd.C_below HW1.out HB2.out) HW2.out (Nat.le_refl _)).mono ?_); rintro e w3 ⟨rfl, hb⟩; have HB3 := Aside0.mk hb; clear hb)
      | (go_at_call 15; (with_reducible refine (sh_awake _).mono ?_); rintro e w4 ⟨rfl, hb⟩; have HB4 := Aside0.mk hb; clear hb))
    go_ret
    exact ⟨rfl, below_step HB1.out (below_step HB2.out (below_step HB3.out HB4.out))⟩
  · have HZ := Aside0.mk hz
    clear hr0 hr1 hc0 hc1 hm0 hm1 y0 y1 hw0 hw1 hb hn0 hn1 hz
    go_enter Try.func6, Try.ntmps6
    go_wp2_with (first
      | (go_at_call 26; (with_reducible refine (sh_Block_no A0 A1 m0 m1 c0 c1 _ HZ.out).mono ?_); rintro e w1 ⟨rfl, hb⟩; have HB1 := Aside0.mk hb; clear hb)
      | (go_at_call 27; (with_reducible refine (rf_block_no A0 A1 m0 m1 c0 c1 _ HZ.out).mono ?_); rintro e w2 ⟨rfl, hb⟩; have HB2 := Aside0.mk hb; clear hb)
      | (go_at_call 23; (with_reducible refine (words_same none none 0 0 0 [] _ (nil_C _) (nil_C _) (by decide)).mono ?_); rintro e w3 ⟨rfl, hb⟩; have HB3 := Aside0.mk hb; clear hb)
      | (go_at_call 15; (with_reducible refine (sh_awake _).mono ?_); rintro e w4 ⟨rfl, hb⟩; have HB4 := Aside0.mk hb; clear hb))
    go_ret
    exact ⟨rfl, below_step HB1.out (below_step HB2.out (below_step HB3.out HB4.out))⟩
end Go.Proofs.Ytbkchjiiaehhpaa.Pure
