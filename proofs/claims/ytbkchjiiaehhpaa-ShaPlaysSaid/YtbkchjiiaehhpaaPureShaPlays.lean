/- Proved: carillonlaw02.ShaPlays returns true: any bytes in any pieces, with a copy on the way. Conditions: none. -/
import Derived.Test.YtbkchjiiaehhpaaPShaHx2
import Derived.Test.YtbkchjiiaehhpaaX1Pure
import Derived.Test.YtbkchjiiaehhpaaXShaQ
namespace Go.Proofs.Ytbkchjiiaehhpaa.Pure
open Go.RowKit Go.Proofs.Ytbkchjiiaehhpaa.PShaH Go.Proofs.YtbkchjiiaehhpaaW.PrintWords Go.Proofs.YtbkchjiiaehhpaaW.PrintLast Go.Proofs.YtbkchjiiaehhpaaW.PrintMore
set_option linter.unusedVariables false
set_option linter.unusedSimpArgs false
open Go.Proofs.Ytbkchjiiaehhpaa.Obj
theorem getD_b {l0 : List (List Int)} {k : Nat} (h : ∀ r ∈ l0, r.length * 1 ≤ 140737488351232 ∧ ∀ x ∈ r, (Lit.int .u8 x).wf = true) : IsB (l0.getD k []) ∧ (l0.getD k []).length ≤ 140737488351232 := by
  rw [List.getD_eq_getElem?_getD]
  rcases hk : l0[k]? with _ | r
  · exact ⟨IsB.nil, by simp⟩
  · have hm : r ∈ l0 := List.mem_of_getElem? hk
    have q := h r hm
    exact ⟨IsB.wf q.2, by simp; omega⟩
set_option maxHeartbeats 16000000 in
set_option maxRecDepth 100000 in
theorem plays_main (K n c0 : Nat) (A0 : Option Addr) (l0 : List (List Int)) (a1 : Int) (w : World) (hr0 : Kd.C (Kd.slice 5 (Kd.int .u8)) w A0 n l0) (hn : n ≤ 140737488351232) (hw0 : ∀ r ∈ l0, r.length * 1 ≤ 140737488351232 ∧ ∀ x ∈ r, (Lit.int .u8 x).wf = true) (ha0 : 0 ≤ a1) (ha1 : a1 < 256)
    (hK1 : K ≤ n) (hK2 : K ≤ 20) (hK : ¬ (K : Int) < n ∨ ((K : Int) < n ∧ ¬ (K : Int) < 20)) :
    Calls Try.prog 7 #[.slice A0 n c0, .int .u8 a1] w fun e w' => e = .returned (.bool true) ∧ Below w.heap.size w w' := by
  have HR := Aside0.mk hr0
  have HW := Aside0.mk hw0
  have HK := Aside0.mk hK
  clear hr0 hw0 hK
  go_enter Try.func7, Try.ntmps7
  go_wp2_with (go_at_call 18; (with_reducible refine (sh_new _).mono ?_); rintro e w1 ⟨D, rfl, hd, hb⟩; have HD1 : Aside0 (DgA w1 w.heap.size D (.slice none 0 0) []) := ⟨hd⟩; have HB1 := Aside0.mk hb; clear hd hb)
  go_loopw [6, 7] (fun v6 v7 wr => ∃ (k : Nat) (v : Value) (l : List Int) (A6 : Option Addr) (c6 : Nat), k ≤ K ∧ v7 = .int .i64 k ∧ v6 = .slice A6 l.length c6 ∧ l.length ≤ 1000 * k ∧ Aside0 (IsB l) ∧ Aside0 (DgA wr w.heap.size D v l) ∧ Aside0 (Kd.R (Kd.int .u8) 5 wr w.heap.size (fun _ => True) (.slice A6 l.length c6) l) ∧ Aside0 (AP v (.slice A6 l.length c6)) ∧ Aside0 (Below w.heap.size w wr)) (fun _ v7 _ => K - (intOf v7).toNat)
  case atStart => exact ⟨0, .slice none 0 0, [], none, 0, Nat.zero_le _, rfl, rfl, Nat.zero_le _, ⟨IsB.nil⟩, HD1, ⟨Kd.R_nil _ _ _ _ _⟩, ⟨fun k hk => by cases hk⟩, HB1⟩
  case round =>
    clear HD1 HB1
    obtain ⟨k, v, l, A6, c6, hk, rfl, rfl, hll, XB, XD, XR, XA, XW⟩ := hrel
    by_cases hlt : k < K
    · obtain ⟨ad, Ab, cb, rfl, hcell, hcb, hCb⟩ := sh_rows HR.out k (by omega)
      obtain ⟨hxb, hxl⟩ := getD_b (k := k) HW.out
      obtain ⟨xs, hxs⟩ : ∃ xs, l0.getD k [] = xs := ⟨_, rfl⟩
      rw [hxs] at hcell hcb hCb hxb hxl
      have CC : Aside0 (∀ W, Below w.heap.size w W → W.cell? (ad.add k) = some (.slice Ab xs.length cb)) := ⟨fun W hb => fl_low hcell hb⟩
      have q0 := CC.out _ XW.out
      obtain ⟨m, hm⟩ : ∃ m, xs.length = m := ⟨_, rfl⟩
      obtain ⟨n6, hn6⟩ : ∃ n6, l.length = n6 := ⟨_, rfl⟩
      rw [hm] at hcb hCb hxl q0 CC
      rw [hn6] at hll XR XA
      rw [hn6]
      have HCB := Aside0.mk hCb
      have HXB := Aside0.mk hxb
      have HCP := Aside0.mk hcb
      have HM := Aside0.mk hm
      have HN6 := Aside0.mk hn6
      have i1 : (k : Int) < (n : Int) := by omega
      have i2 : (k : Int) < 20 := by omega
      clear hcell hCb hxb hcb hxs hm hn6
      by_cases hbig : 1000 < m
      · have i3 : (1000 : Int) < (m : Int) := by omega
        go_wp2_with (go_at_call 15; (with_reducible refine (sh_awake _).mono ?_); rintro e w8 ⟨rfl, hb⟩; have HB8 := Aside0.mk (below_step XW.out hb); clear hb)
        go_ret
        exact ⟨rfl, HB8.out⟩
      · have i3 : ¬ (1000 : Int) < (m : Int) := by omega
        obtain ⟨n7, hn7⟩ : ∃ n7, (l ++ xs).length = n7 := ⟨_, rfl⟩
        have HNS : Aside0 (n6 ≤ 20000 ∧ m ≤ 1000 ∧ n7 ≤ 21000 ∧ n6 + m ≤ 21000) := ⟨by have h1_ := HN6.out; have h2_ := HM.out; rw [List.length_append] at hn7; omega⟩
        have HNK : Aside0 (n7 ≤ 1000 * (k + 1)) := ⟨by have h1_ := HN6.out; have h2_ := HM.out; rw [List.length_append] at hn7; omega⟩
        have HN7 := Aside0.mk hn7
        clear hn7
        by_cases hkz : a1 % 8 = (k : Int)
        · go_upto_region 14 with (first
            | (go_at_call 28; (with_reducible refine (sh_copyA D w.heap.size v l _ XD.out).mono ?_); rintro e w2 ⟨D2, u2, rfl, hd, hb⟩; have HD2 := Aside0.mk hd; have HB2 := Aside0.mk hb; clear hd hb)
            | (go_at_call 19; (with_reducible refine (sh_write D2 _ u2 l 3 3 _ [1, 2, 3] _ (dga_below HD2.out (below_alloc (Below.refl _ _) _)) (lit_foot HD2.out) (IsB.cons (by decide) (by decide) (IsB.cons (by decide) (by decide) (IsB.cons (by decide) (by decide) IsB.nil))) XB.out (Nat.le_refl _) (by have := HN6.out; have := HNS.out; omega)).mono ?_); rintro e w3 ⟨v3, rfl, hd, _, hb, _⟩; have HD3 := Aside0.mk hd; have HB3 := Aside0.mk ((below_alloc HB2.out _).trans hb); clear hd hb)
            | (go_at_call 29; (with_reducible refine (sh_lenA D2 _ _ _ _ HD3.out).mono ?_); rintro e w3 ⟨rfl, rfl⟩; have hl3_ : (l ++ [1, 2, 3]).length = n6 + 3 := (by rw [List.length_append, HN6.out]; rfl); rw [hl3_, Int.natCast_add]))
          have XD3 := Aside0.mk (dga_below XD.out HB3.out)
          have XR3 := Aside0.mk (Kd.R_below XR.out HB3.out)
          have XW3 := Aside0.mk (below_step XW.out HB3.out)
          clear q0
          have q3 := CC.out _ XW3.out
          go_wp2_with (first
            | (go_at_call 19; (with_reducible refine (sh_write D w.heap.size v l m cb Ab xs _ XD3.out (dg_argA HCB.out XW3.out XD3.out (Nat.le_refl _)) HXB.out XB.out HCP.out (by have := HN6.out; have := HNS.out; omega)).mono ?_); rintro e w4 ⟨v4, rfl, hd, hk, hb, hn⟩; have HD4 := Aside0.mk hd; have HR4 := Aside0.mk (dga_row XD3.out XR3.out hk); have HA4 := Aside0.mk (ap_write XA.out XR3.out hn); have HW4 := Aside0.mk (XW3.out.trans hb); have q4 := CC.out _ HW4.out; clear hd hk hb hn; (try clear q3))
            | ((with_reducible refine gate_dst (N := 68) rfl ?_); (refine x_append .u8 (w0 := w) w.heap.size rfl (.tmp 63) (.tmp 67) 22 5 1 rfl Try.underlying22 dg_info (by decide) (.slice A6 n6 c6) l xs Ab m cb rfl rfl HR4.out (Kd.C_below HCB.out HW4.out) HW4.out HW4.out.size (by have := HN6.out; have := HNS.out; omega) ?_); intro v5 w5 ho hb hg hn; have HD5 := Aside0.mk (dga_grown HD4.out HR4.out hg HA4.out); have HW5 := Aside0.mk hb; obtain ⟨A7, c7, rfl, hc7, hC7⟩ := Kd.R_reads ho; have ha5 := ap_append HA4.out HD4.out hn; rw [HN7.out] at ho hC7 ha5; rw [HN7.out]; have HA5 := Aside0.mk ha5; have HR5 := Aside0.mk ho; have HC5 := Aside0.mk hC7; clear ho hb hg hn hc7 hC7 ha5; (try clear q4))
            | (go_at_call 20; (with_reducible refine (sh_sumA D w.heap.size v4 (l ++ xs) _ HD5.out (by rw [HN7.out]; have := HNS.out; omega) (IsB.append XB.out HXB.out)).mono ?_); rintro e w6 ⟨v6, rfl, hR, hb⟩; have HS6 := Aside0.mk hR; have HW6 := Aside0.mk (below_step HW5.out hb); have HD6 := Aside0.mk (dga_below HD5.out hb); have HC6 := Aside0.mk (Kd.C_below HC5.out hb); have HR6 := Aside0.mk (Kd.R_below HR5.out hb); clear hR hb)
            | (go_at_call 17; (with_reducible refine (rf_of A7 n7 c7 (l ++ xs) _ HC6.out (IsB.append XB.out HXB.out) (by have := HNS.out; omega)).mono ?_); rintro e w8 ⟨v8, rfl, hR, hb⟩; rw [dig_same] at hR; have HW8 := Aside0.mk (below_step HW6.out hb); have HD8 := Aside0.mk (dga_below HD6.out hb); have HR8 := Aside0.mk (Kd.R_below HR6.out hb); have hs1 := own_string (P := Try.prog) (dst := 9) Try.underlying22 Try.underlying5 Try.underlying9 (Kd.own_of_R (Kd.R_below HS6.out hb)); have hs2 := own_string (P := Try.prog) (dst := 9) Try.underlying22 Try.underlying5 Try.underlying9 (Kd.own_of_R hR); obtain ⟨s, hs⟩ : ∃ s, strOfNums (digP (l ++ xs)) = s := ⟨_, rfl⟩; rw [hs] at hs1 hs2; clear hs hR hb)
            | (go_at_call 29; (with_reducible refine (sh_lenA D w.heap.size v4 (l ++ xs) _ HD8.out).mono ?_); rintro e w8 ⟨rfl, rfl⟩; rw [HN7.out]))
          go_roundw
          case rel => exact ⟨k + 1, v4, l ++ xs, A7, c7, by omega, by simp, by rw [HN7.out], by rw [HN7.out]; have := HNK.out; omega, ⟨IsB.append XB.out HXB.out⟩, HD8, ⟨by rw [HN7.out]; exact HR8.out⟩, ⟨by rw [HN7.out]; exact HA5.out⟩, HW8⟩
          case measure => simp [intOf]; omega
        · have hkz2 : ¬ (k : Int) = a1 % 8 := fun e => hkz e.symm
          go_upto_region 14 with fail
          clear q0
          have q3 := CC.out _ XW.out
          go_wp2_with (first
            | (go_at_call 19; (with_reducible refine (sh_write D w.heap.size v l m cb Ab xs _ XD.out (dg_argA HCB.out XW.out XD.out (Nat.le_refl _)) HXB.out XB.out HCP.out (by have := HN6.out; have := HNS.out; omega)).mono ?_); rintro e w4 ⟨v4, rfl, hd, hk, hb, hn⟩; have HD4 := Aside0.mk hd; have HR4 := Aside0.mk (dga_row XD.out XR.out hk); have HA4 := Aside0.mk (ap_write XA.out XR.out hn); have HW4 := Aside0.mk (XW.out.trans hb); have q4 := CC.out _ HW4.out; clear hd hk hb hn; (try clear q3))
            | ((with_reducible refine gate_dst (N := 68) rfl ?_); (refine x_append .u8 (w0 := w) w.heap.size rfl (.tmp 63) (.tmp 67) 22 5 1 rfl Try.underlying22 dg_info (by decide) (.slice A6 n6 c6) l xs Ab m cb rfl rfl HR4.out (Kd.C_below HCB.out HW4.out) HW4.out HW4.out.size (by have := HN6.out; have := HNS.out; omega) ?_); intro v5 w5 ho hb hg hn; have HD5 := Aside0.mk (dga_grown HD4.out HR4.out hg HA4.out); have HW5 := Aside0.mk hb; obtain ⟨A7, c7, rfl, hc7, hC7⟩ := Kd.R_reads ho; have ha5 := ap_append HA4.out HD4.out hn; rw [HN7.out] at ho hC7 ha5; rw [HN7.out]; have HA5 := Aside0.mk ha5; have HR5 := Aside0.mk ho; have HC5 := Aside0.mk hC7; clear ho hb hg hn hc7 hC7 ha5; (try clear q4))
            | (go_at_call 20; (with_reducible refine (sh_sumA D w.heap.size v4 (l ++ xs) _ HD5.out (by rw [HN7.out]; have := HNS.out; omega) (IsB.append XB.out HXB.out)).mono ?_); rintro e w6 ⟨v6, rfl, hR, hb⟩; have HS6 := Aside0.mk hR; have HW6 := Aside0.mk (below_step HW5.out hb); have HD6 := Aside0.mk (dga_below HD5.out hb); have HC6 := Aside0.mk (Kd.C_below HC5.out hb); have HR6 := Aside0.mk (Kd.R_below HR5.out hb); clear hR hb)
            | (go_at_call 17; (with_reducible refine (rf_of A7 n7 c7 (l ++ xs) _ HC6.out (IsB.append XB.out HXB.out) (by have := HNS.out; omega)).mono ?_); rintro e w8 ⟨v8, rfl, hR, hb⟩; rw [dig_same] at hR; have HW8 := Aside0.mk (below_step HW6.out hb); have HD8 := Aside0.mk (dga_below HD6.out hb); have HR8 := Aside0.mk (Kd.R_below HR6.out hb); have hs1 := own_string (P := Try.prog) (dst := 9) Try.underlying22 Try.underlying5 Try.underlying9 (Kd.own_of_R (Kd.R_below HS6.out hb)); have hs2 := own_string (P := Try.prog) (dst := 9) Try.underlying22 Try.underlying5 Try.underlying9 (Kd.own_of_R hR); obtain ⟨s, hs⟩ : ∃ s, strOfNums (digP (l ++ xs)) = s := ⟨_, rfl⟩; rw [hs] at hs1 hs2; clear hs hR hb)
            | (go_at_call 29; (with_reducible refine (sh_lenA D w.heap.size v4 (l ++ xs) _ HD8.out).mono ?_); rintro e w8 ⟨rfl, rfl⟩; rw [HN7.out]))
          go_roundw
          case rel => exact ⟨k + 1, v4, l ++ xs, A7, c7, by omega, by simp, by rw [HN7.out], by rw [HN7.out]; have := HNK.out; omega, ⟨IsB.append XB.out HXB.out⟩, HD8, ⟨by rw [HN7.out]; exact HR8.out⟩, ⟨by rw [HN7.out]; exact HA5.out⟩, HW8⟩
          case measure => simp [intOf]; omega
    · obtain rfl : k = K := by omega
      have hKK := HK.out
      obtain ⟨n6, hn6⟩ : ∃ n6, l.length = n6 := ⟨_, rfl⟩
      rw [hn6]
      have HN6 := Aside0.mk hn6
      clear hn6
      rcases hKK with h | ⟨h, h2⟩
      all_goals
        go_wp2_with (first
          | (go_at_call 29; (with_reducible refine (sh_lenA D w.heap.size v l _ XD.out).mono ?_); rintro e w7 ⟨rfl, rfl⟩; rw [HN6.out])
          | (go_at_call 15; (with_reducible refine (sh_awake _).mono ?_); rintro e w8 ⟨rfl, hb⟩; have HB8 := Aside0.mk (below_step XW.out hb); clear hb))
        go_ret
        exact ⟨rfl, HB8.out⟩
set_option maxHeartbeats 8000000 in
set_option maxRecDepth 100000 in
theorem ShaPlays : carillonlaw02_ShaPlays.Pure := by
  intro A0 c0 l0 a1 w hr0 hc0 hm0 y0 hw0 w1
  have hx := x_wf8 w1
  obtain ⟨n, hn⟩ : ∃ n, l0.length = n := ⟨_, rfl⟩
  rw [hn] at hr0 y0 ⊢
  refine plays_main (min n 20) n c0 A0 l0 a1 w hr0 (by omega) hw0 hx.1 hx.2 (by omega) (by omega) ?_
  by_cases h : n ≤ 20
  · rw [Nat.min_eq_left h]; left; omega
  · rw [Nat.min_eq_right (by omega)]; right; omega
end Go.Proofs.Ytbkchjiiaehhpaa.Pure
