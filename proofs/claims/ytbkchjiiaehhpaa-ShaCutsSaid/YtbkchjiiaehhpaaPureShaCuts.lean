/- Proved: carillonlaw02.ShaCuts returns true: the digest of bytes in two pieces is that of all. Conditions: none. -/
import Derived.Test.YtbkchjiiaehhpaaPShaHx1
import Derived.Test.YtbkchjiiaehhpaaX1Pure
import Derived.Test.YtbkchjiiaehhpaaXShaP
namespace Go.Proofs.Ytbkchjiiaehhpaa.Pure
open Go.RowKit Go.Proofs.Ytbkchjiiaehhpaa.PShaH Go.Proofs.YtbkchjiiaehhpaaW.PrintWords Go.Proofs.YtbkchjiiaehhpaaW.PrintLast Go.Proofs.YtbkchjiiaehhpaaW.PrintMore
set_option linter.unusedVariables false
set_option linter.unusedSimpArgs false
open Go.Proofs.Ytbkchjiiaehhpaa.Obj
theorem cut_old {w : World} {base : Nat} {v : Value} {xs : List Int} (h : Kd.R (Kd.int .u8) 5 w base (fun _ => True) v xs) : Kd.R (Kd.int .u8) 5 w base (fun k => k < w.heap.size) v xs := Kd.R_mono (Kd.R_bound h) (fun _ hk => hk.2.2.1)
theorem cut_new {w : World} {o : Obj} {v : Value} (h : v.ownBlock = (Value.slice (some ⟨w.heap.size, 0, none⟩) 0 0).ownBlock ∨ ∃ b, v.ownBlock = some b ∧ (w.alloc o).heap.size ≤ b) : ∀ k, v.ownBlock = some k → w.heap.size ≤ k := by
  intro k hk
  rcases h with h | ⟨b, h, hb⟩
  · rw [h] at hk
    injection hk with hk
    simp at hk
    omega
  · rw [h] at hk
    injection hk with hk
    rw [World.size_alloc] at hb
    omega
theorem cut_first {w w1 : World} {base : Nat} {v : Value} {xs : List Int} {o : Obj} (h : Kd.R (Kd.int .u8) 5 w base (fun _ => True) v xs) (hg : (w.alloc o).grownBy w1 (Value.slice (some ⟨w.heap.size, 0, none⟩) 0 0).ownBlock) : Kd.R (Kd.int .u8) 5 w1 base (fun k => k < w.heap.size) v xs :=
  Kd.R_grown (Kd.R_alloc (cut_old h) _) hg (fun k hk e => by
    have hk' : k < w.heap.size := hk
    have e' : k = w.heap.size := by simpa [Value.ownBlock] using e
    omega)
theorem cut_second {w w1 : World} {base n : Nat} {v u : Value} {xs : List Int} (h : Kd.R (Kd.int .u8) 5 w base (fun k => k < n) v xs) (hn : ∀ k, u.ownBlock = some k → n ≤ k) (hg : w.grownBy w1 u.ownBlock) : Kd.R (Kd.int .u8) 5 w1 base (fun _ => True) v xs :=
  Kd.R_mono (Kd.R_grown h hg (fun k hk e => by
    have hk' : k < n := hk
    have := hn k e.symm
    omega)) (fun _ _ => trivial)
set_option maxHeartbeats 8000000 in
set_option maxRecDepth 100000 in
theorem cuts_main (A0 : Option Addr) (m0 c0 : Nat) (l0 : List Int) (A1 : Option Addr) (m1 c1 : Nat) (l1 : List Int) (w : World) (hr0 : Kd.C (Kd.int .u8) w A0 m0 l0) (hc0 : m0 ≤ c0) (hb0 : IsB l0) (hr1 : Kd.C (Kd.int .u8) w A1 m1 l1) (hc1 : m1 ≤ c1) (hb1 : IsB l1) (h0 : m0 ≤ 100000) (h1 : m1 ≤ 100000) :
    Calls Try.prog 4 #[.slice A0 m0 c0, .slice A1 m1 c1] w fun e w' => e = .returned (.bool true) ∧ Below w.heap.size w w' := by
  have HR0 := Aside0.mk hr0
  have HC0 := Aside0.mk hc0
  have HX0 := Aside0.mk hb0
  have HR1 := Aside0.mk hr1
  have HC1 := Aside0.mk hc1
  have HX1 := Aside0.mk hb1
  have HL0 := Aside0.mk hr0.1
  have HL1 := Aside0.mk hr1.1
  have HM0 := Aside0.mk h0
  have HM1 := Aside0.mk h1
  have i0 : ¬ (100000 : Int) < (m0 : Int) := by omega
  have i1 : ¬ (100000 : Int) < (m1 : Int) := by omega
  clear hr0 hc0 hb0 hr1 hc1 hb1 h0 h1
  go_enter Try.func4, Try.ntmps4
  go_upto_region 9 with (first
    | (go_at_call 18; (with_reducible refine (sh_new _).mono ?_); rintro e w1 ⟨D, rfl, hd, hb⟩; have HD1 : Aside0 (DgA w1 w.heap.size D (.slice none 0 0) []) := ⟨hd⟩; have HB1 := Aside0.mk hb; clear hd hb)
    | (go_at_call 19; (with_reducible refine (sh_write D w.heap.size (.slice none 0 0) [] m0 c0 A0 l0 _ HD1.out (dg_argA HR0.out HB1.out HD1.out (Nat.le_refl _)) HX0.out IsB.nil HC0.out (by have := HM0.out; simp; omega)).mono ?_); rintro e w2 ⟨v2, rfl, hd, _, hb, _⟩; rw [List.nil_append] at hd; have HD2 := Aside0.mk hd; have HB2 := Aside0.mk (HB1.out.trans hb); clear hd hb)
    | (go_at_call 19; (with_reducible refine (sh_write D w.heap.size v2 l0 m1 c1 A1 l1 _ HD2.out (dg_argA HR1.out HB2.out HD2.out (Nat.le_refl _)) HX1.out HX0.out HC1.out (by have := HM0.out; have := HM1.out; have := HL0.out; omega)).mono ?_); rintro e w3 ⟨v3, rfl, hd, _, hb, _⟩; have HD3 := Aside0.mk hd; have HB3 := Aside0.mk (HB2.out.trans hb); clear hd hb)
    | (go_at_call 20; (with_reducible refine (sh_sumA D w.heap.size v3 (l0 ++ l1) _ HD3.out (by have := HM0.out; have := HM1.out; have := HL0.out; have := HL1.out; rw [List.length_append]; omega) (IsB.append HX0.out HX1.out)).mono ?_); rintro e w4 ⟨v4, rfl, hR, hb⟩; have HR4 := Aside0.mk hR; have HB4 := Aside0.mk (below_step HB3.out hb); clear hR hb))
  go_wp2_with (first
    | ((with_reducible refine gate_dst (N := 38) rfl ?_); (refine x_append .u8 (w0 := w) w.heap.size rfl (.tmp 36) (.tmp 37) 22 5 1 rfl Try.underlying22 dg_info (by decide) (.slice (some ⟨w4.heap.size, 0, none⟩) 0 0) [] l0 A0 m0 c0 rfl rfl (sc_empty0 w4 _ _ HB4.out.size) (Kd.C_below HR0.out (HB4.out.alloc HB4.out.size _)) (HB4.out.alloc HB4.out.size _) (HB4.out.alloc HB4.out.size _).size (by have := HM0.out; simp; omega) ?_); intro v5 w5 ho5 hb5 hg5 hn5; rw [List.nil_append] at ho5; have HO5 := Aside0.mk ho5; have HB5 := Aside0.mk hb5; have HR5 := Aside0.mk (cut_first HR4.out hg5); have HN5 := Aside0.mk (cut_new hn5); clear ho5 hb5 hg5 hn5)
    | ((with_reducible refine gate_dst (N := 40) rfl ?_); (refine x_append .u8 (w0 := w) w.heap.size rfl (.tmp 38) (.tmp 39) 22 5 1 rfl Try.underlying22 dg_info (by decide) v5 l0 l1 A1 m1 c1 rfl rfl HO5.out (Kd.C_below HR1.out HB5.out) HB5.out HB5.out.size (by have := HM0.out; have := HM1.out; have := HL0.out; omega) ?_); intro v6 w6 ho6 hb6 hg6 hn6; have HO6 := Aside0.mk ho6; have HB6 := Aside0.mk hb6; have HR6 := Aside0.mk (cut_second HR5.out HN5.out hg6); clear ho6 hb6 hg6 hn6; obtain ⟨A6, c6, rfl, hc6, hC6⟩ := Kd.R_reads HO6.out; rw [List.length_append] at hc6 hC6; have HC6 := Aside0.mk hC6; have HL6 := Aside0.mk hc6; clear hC6 hc6)
    | (go_at_call 16; (with_reducible refine (sh_of A6 (l0.length + l1.length) c6 (l0 ++ l1) _ HC6.out (IsB.append HX0.out HX1.out) HL6.out (by have := HM0.out; have := HM1.out; have := HL0.out; have := HL1.out; omega)).mono ?_); rintro e w7 ⟨v7, rfl, hR, hb⟩; have HR7 := Aside0.mk hR; have HB7 := Aside0.mk (below_step HB6.out hb); have HR8 := Aside0.mk (Kd.R_below HR6.out hb); clear hR hb; have hs1 := own_string (P := Try.prog) (dst := 9) Try.underlying22 Try.underlying5 Try.underlying9 (Kd.own_of_R HR8.out); have hs2 := own_string (P := Try.prog) (dst := 9) Try.underlying22 Try.underlying5 Try.underlying9 (Kd.own_of_R HR7.out); obtain ⟨s, hs⟩ : ∃ s, strOfNums (digP (l0 ++ l1)) = s := ⟨_, rfl⟩; rw [hs] at hs1 hs2; obtain ⟨A4, c4, rfl⟩ := Kd.R_slice HR8.out; rw [digP_len] at hs1; rw [digP_len]; clear hs)
    | (go_at_call 15; (with_reducible refine (sh_awake _).mono ?_); rintro e w8 ⟨rfl, hb⟩; have HB8 := Aside0.mk (below_step HB7.out hb); clear hb))
  go_ret
  exact ⟨rfl, HB8.out⟩
set_option maxHeartbeats 8000000 in
set_option maxRecDepth 100000 in
theorem ShaCuts : carillonlaw02_ShaCuts.Pure := by
  intro A0 c0 l0 A1 c1 l1 w hr0 hc0 hm0 y0 hw0 hr1 hc1 hm1 y1 hw1
  obtain ⟨m0, hn0⟩ : ∃ n, l0.length = n := ⟨_, rfl⟩
  obtain ⟨m1, hn1⟩ : ∃ n, l1.length = n := ⟨_, rfl⟩
  rw [hn0] at hr0 hc0 ⊢
  rw [hn1] at hr1 hc1 ⊢
  by_cases h0 : m0 ≤ 100000
  · by_cases h1 : m1 ≤ 100000
    · exact cuts_main A0 m0 c0 l0 A1 m1 c1 l1 w hr0 hc0 (IsB.wf hw0) hr1 hc1 (IsB.wf hw1) h0 h1
    · have i0 : ¬ (100000 : Int) < (m0 : Int) := by omega
      have i1 : (100000 : Int) < (m1 : Int) := by omega
      clear hr0 hc0 hm0 y0 hw0 hr1 hc1 hm1 y1 hw1 hn0 hn1 h0 h1
      go_enter Try.func4, Try.ntmps4
      go_wp2_with (go_at_call 15; (with_reducible refine (sh_awake _).mono ?_); rintro e w1 ⟨rfl, hb⟩; have HB1 := Aside0.mk hb; clear hb)
      go_ret
      exact ⟨rfl, HB1.out⟩
  · have i0 : (100000 : Int) < (m0 : Int) := by omega
    clear hr0 hc0 hm0 y0 hw0 hr1 hc1 hm1 y1 hw1 hn0 hn1 h0
    go_enter Try.func4, Try.ntmps4
    go_wp2_with (go_at_call 15; (with_reducible refine (sh_awake _).mono ?_); rintro e w1 ⟨rfl, hb⟩; have HB1 := Aside0.mk hb; clear hb)
    go_ret
    exact ⟨rfl, HB1.out⟩
end Go.Proofs.Ytbkchjiiaehhpaa.Pure
