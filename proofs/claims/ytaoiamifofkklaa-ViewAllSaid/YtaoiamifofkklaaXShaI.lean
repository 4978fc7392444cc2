/- Contracts of Go functions that the claims of this seat share. -/
import Derived.Test.YtaoiamifofkklaaProg
import Derived.Below
import Derived.Deep.Draws
import Derived.Deep.AppendLies
import Derived.Maps.AppendAt
import Derived.OwnWalk
import Derived.Laws.BytesArg
import Derived.Laws.MakeOwn
import Derived.Laws.OwnMore
import Derived.Deep.OwnRows
import Derived.Tactics
import Derived.Lib.ConvBytes
import Derived.Laws.Slices
import Derived.WalkKit
import Derived.KernelRfl
import Derived.RowKit3
import Derived.Deep.LoopGhost
import Derived.Deep.QuietTactic
import Derived.BigQuiet
import Derived.WideLaws
import Derived.Deep.DeepCutAuto
import Derived.Deep.CutBlock
import Derived.Deep.RegionHeld3
import Derived.Laws.Rows
import Derived.Lib.AppendStr
import Derived.ArgAppend
import Derived.Laws.IdiomCopy
import Derived.OrdersHeld
import Derived.Laws.BitsLemmas
import Derived.RowKit
import Derived.Lib.OthersKept
import Derived.Test.YtaoiamifofkklaaWWords
import Derived.Test.YtaoiamifofkklaaWLast
import Derived.Test.YtaoiamifofkklaaWTab
import Derived.Test.YtaoiamifofkklaaWFour
import Derived.Test.YtaoiamifofkklaaWQPut
import Derived.Test.YtaoiamifofkklaaWApart
import Derived.Test.YtaoiamifofkklaaWArr
import Derived.Test.YtaoiamifofkklaaWZeros
import Derived.Test.YtaoiamifofkklaaWFoot
import Derived.Test.YtaoiamifofkklaaWKept
import Derived.Test.YtaoiamifofkklaaWShare
import Derived.Test.YtaoiamifofkklaaWN
import Derived.Test.YtaoiamifofkklaaWFootNe
import Derived.Test.YtaoiamifofkklaaWAt
import Derived.Test.YtaoiamifofkklaaWEqStruct
import Derived.Test.YtaoiamifofkklaaWRepsOne
import Derived.Test.YtaoiamifofkklaaWInv
import Derived.Test.YtaoiamifofkklaaWInvWords
import Derived.Test.YtaoiamifofkklaaWGuard
import Derived.Test.YtaoiamifofkklaaWNEv
import Derived.Test.YtaoiamifofkklaaWMore
import Derived.Test.YtaoiamifofkklaaX0Mem
import Derived.Test.YtaoiamifofkklaaX1Pure
import Derived.Test.YtaoiamifofkklaaXShaH
namespace Go.Proofs.Ytaoiamifofkklaa.Obj
open Go.RowKit Go.Proofs.YtaoiamifofkklaaW.PrintWords Go.Proofs.YtaoiamifofkklaaW.PrintLast Go.Proofs.YtaoiamifofkklaaW.PrintMore
set_option linter.unusedVariables false
set_option linter.unusedSimpArgs false
open Go.Proofs.Ytaoiamifofkklaa.PShaH
theorem sc_mid {w : World} {A : Option Addr} {n : Nat} {l : List Int} (c k j : Nat) (h : Kd.C (Kd.int .u8) w A n l) (hk : k + j ≤ n) (hc : n ≤ c) :
    ∃ A', (∀ W : World, (Instr.slice 36 (.slice A n c) (some (.int .i64 (k : Int))) (some (.int .i64 ((k : Int) + (j : Int)))) none).run Try.prog W = .ok (.slice A' j (c - k)) W) ∧ Kd.C (Kd.int .u8) w A' j ((l.take (k + j)).drop k) := by
  have hl := h.1
  subst hl
  obtain ⟨i0, hi0, _, hsz, _⟩ := info_parts dg_info
  obtain ⟨A', h1, h2, _⟩ := print_mid_of (P := Try.prog) (Value.int .u8) 0 36 5 .i64 .i64 Try.underlying36 hi0 hsz A c l (k : Int) ((k : Int) + (j : Int)) (by omega) (by omega) (by omega) hc
  rw [Int.toNat_natCast, show ((k : Int) + (j : Int)).toNat = k + j by omega] at h1 h2
  have e : ((l.take (k + j)).drop k).length = j := by rw [List.length_drop, List.length_take]; omega
  rw [e] at h1 h2
  exact ⟨A', h1, Kd.C_of_reads (d := (0 : Int)) (h1 := fun _ => rfl) (h2 w (Kd.reads_of_C h))⟩
def allL (l : List Int) : List Int := padL l ++ bytesBE 8 (8 * (l.length : Int))
def digR (l : List Int) : List Int := w8B (foldN ((allL l).length / 64) (allL l) IV)
theorem rf_putlong (A : Option Addr) (L c : Nat) (l : List Int) (a : Int) (w : World) (hC : Kd.C (Kd.int .u8) w A L l) (hc : L ≤ c) (hl : L ≤ 2000000) :
    Calls Try.prog 96 #[.slice A L c, .int .u64 a] w fun e w' => ∃ v, e = .returned v ∧ Kd.R (Kd.int .u8) 5 w' w.heap.size (fun _ => True) v (l ++ bytesBE 8 a) ∧ Below w.heap.size w w' := by
  have h1 := hC.1
  have h := carillonref01_PutLong.calls 30 A c l a _ w (by rw [h1]; exact hC) (by rw [h1]; exact hc) (rputlong_is l a 30 (by omega) (by omega))
  rw [h1] at h
  exact h
theorem rf_begin (w : World) : Calls Try.prog 97 #[] w fun e w' => ∃ v, e = .returned v ∧ Kd.R (Kd.int .u32) 95 w' w.heap.size (fun _ => True) v (w8I IV) ∧ Below w.heap.size w w' :=
  carillonref02_begin.calls _ w (by decide)
theorem rf_put8 (A : Option Addr) (c : Nat) (s : W8) (w : World) (hC : Kd.C (Kd.int .u32) w A 8 (w8I s)) (hc : 8 ≤ c) :
    Calls Try.prog 85 #[.slice none 0 0, .slice A 8 c] w fun e w' => ∃ v, e = .returned v ∧ Kd.R (Kd.int .u8) 5 w' w.heap.size (fun _ => True) v (w8B s) ∧ Below w.heap.size w w' := by
  have hl : (w8I s).length = 8 := rfl
  have h := carillonref01_Put.calls 30 none 0 [] A c (w8I s) _ w (Kd.C_of_reads (d := (0 : Int)) (h1 := fun _ => rfl) ⟨rfl, by simp, fun h => by simp at h⟩) (by simp) (by rw [hl]; exact hC) (by rw [hl]; exact hc) (rput_is [] (w8I s) (by rw [hl]; decide) 30 (by rw [hl]; decide) (by simp))
  rw [List.nil_append] at h
  exact h
theorem sc_empty (W : World) (e : TypeId) : Kd.R (Kd.int .u8) e (W.alloc (.cells #[] e)) W.heap.size (fun _ => True) (.slice (some ⟨W.heap.size, 0, none⟩) 0 0) [] := by
  have h1 := own_lit W W.heap.size e .u8 [] (Nat.le_refl _) (by simp)
  exact Kd.R_of_own (enc := Value.int .u8) (h1 := fun _ => rfl) (ok := fun _ => True) h1 (fun _ _ => trivial)
set_option maxHeartbeats 8000000 in
set_option maxRecDepth 100000 in
theorem rf_of (A : Option Addr) (m c : Nat) (l : List Int) (w : World) (hC : Kd.C (Kd.int .u8) w A m l) (hx : IsB l) (hm : m ≤ 1048576) :
    Calls Try.prog 84 #[.slice A m c] w fun e w' => ∃ v, e = .returned (.tuple #[v, .int .i64 0]) ∧ Kd.R (Kd.int .u8) 5 w' w.heap.size (fun _ => True) v (digR l) ∧ Below w.heap.size w w' := by
  have HC := Aside0.mk hC
  have HX := Aside0.mk hx
  have HM := Aside0.mk hm
  have HL := Aside0.mk hC.1
  have hmm : ¬ (1048576 : Int) < (m : Int) := by omega
  clear hC hx
  go_enter Try.func84, Try.ntmps84
  go_wp2_with (first
    | ((with_reducible refine gate_dst (N := 14) rfl ?_); (refine x_append .u8 w.heap.size rfl (.tmp 12) (.tmp 13) 36 5 1 rfl Try.underlying36 dg_info (by decide) (.slice (some ⟨w.heap.size, 0, none⟩) 0 0) [] l A m c rfl rfl (sc_empty w 5) (Kd.C_below HC.out ((Below.refl _ w).alloc (Nat.le_refl _) _)) ((Below.refl _ w).alloc (Nat.le_refl _) _) (by simp) (by simp; have h1 := HM.out; omega) ?_); intro v2 W2 ho2 hb2 hg2 hn2; rw [List.nil_append] at ho2; have HO2 := Aside0.mk ho2; have HB2 := Aside0.mk hb2; clear ho2 hb2 hg2 hn2)
    | ((with_reducible refine gate_dst (N := 17) rfl ?_); (refine x_append .u8 w.heap.size rfl (.tmp 15) (.tmp 16) 36 5 1 rfl Try.underlying36 dg_info (by decide) v2 l [128] (some ⟨W2.heap.size, 0, none⟩) 1 1 rfl rfl (Kd.R_below HO2.out (below_alloc (Below.refl _ _) _)) (x_lit_C .u8 W2 5 [128] (by simp)) (HB2.out.alloc HB2.out.size _) (by simp; have h1 := HB2.out.size; omega) (by have h1 := HL.out; have h2 := HM.out; omega) ?_); intro v3 W3 ho3 hb3 hg3 hn3; have HO3 := Aside0.mk ho3; have HB3 := Aside0.mk hb3; clear ho3 hb3 hg3 hn3))
  obtain ⟨A3, c3, rfl⟩ := Kd.R_slice HO3.out
  obtain ⟨L0, hL0⟩ : ∃ L, (l ++ [128]).length = L := ⟨_, rfl⟩
  have HL0 : Aside0 (L0 = m + 1 + 0) := ⟨by rw [← hL0, List.length_append, HL.out]; rfl⟩
  rw [hL0] at HO3
  rw [hL0]
  have HO3' : Aside0 (Kd.R (Kd.int .u8) 5 W3 w.heap.size (fun _ => True) (.slice A3 L0 c3) ((l ++ [128]) ++ List.replicate 0 0)) := ⟨by simpa using HO3.out⟩
  clear HO3 hL0 HO2 HB2
  go_loopw [4] (fun v3 wr => ∃ (k L : Nat) (A' : Option Addr) (c' : Nat), k ≤ padK m ∧ Aside0 (L = m + 1 + k) ∧ v3 = .slice A' L c' ∧ Aside0 (Kd.R (Kd.int .u8) 5 wr w.heap.size (fun _ => True) (.slice A' L c') ((l ++ [128]) ++ List.replicate k 0)) ∧ Aside0 (Below w.heap.size w wr)) (fun v3 _ => match v3 with | .slice _ len _ => m + 1 + padK m - len | _ => 0)
  case atStart => exact ⟨0, L0, A3, c3, Nat.zero_le _, HL0, rfl, HO3', HB3⟩
  case round =>
    clear HO3' HB3
    obtain ⟨k, L, A', c', hk, KL, rfl, KO, KB⟩ := hrel
    have hL := KL.out.symm
    clear HL0
    have hp := padK_at m
    have hpl := padK_lt m
    by_cases hlt : k < padK m
    · have h1 := hp.2 k hlt
      rw [hL] at h1
      have b1 : ((L : Int) % 64 == 56) = false := by
        rw [beq_eq_false_iff_ne]; omega
      have b2 : ((L : Int) % 64 != 56) = true := by
        rw [bne_iff_ne]; omega
      have b3 : ¬ ((L : Int) % 64 = 56) := by omega
      have HLB : Aside0 (L ≤ 1048700) := ⟨by omega⟩
      have HL1 := Aside0.mk hL
      have hll : ((l ++ [128]) ++ List.replicate k (0 : Int)).length = L := by
        rw [List.length_append, List.length_append, HL.out, List.length_replicate, ← hL]; rfl
      have HLL2 := Aside0.mk hll
      clear h1 hp hL hll
      go_wp2_with ((with_reducible refine gate_dst (N := 24) rfl ?_); (refine x_append .u8 w.heap.size rfl (.tmp 22) (.tmp 23) 36 5 1 rfl Try.underlying36 dg_info (by decide) (.slice A' L c') ((l ++ [128]) ++ List.replicate k 0) [0] (some ⟨wr.heap.size, 0, none⟩) 1 1 rfl rfl (Kd.R_below KO.out (below_alloc (Below.refl _ _) _)) (x_lit_C .u8 wr 5 [0] (by simp)) (KB.out.alloc KB.out.size _) (by simp; have h1 := KB.out.size; omega) (by rw [HLL2.out]; have := HLB.out; omega) ?_); intro v4 W4 ho4 hb4 hg4 hn4; have HO4 := Aside0.mk ho4; have HB4 := Aside0.mk hb4; clear ho4 hb4 hg4 hn4)
      have ho4 := HO4.out
      rw [List.append_assoc, ← List.replicate_succ'] at ho4
      obtain ⟨A5, c5, rfl⟩ := Kd.R_slice ho4
      have hl5 : ((l ++ [128]) ++ List.replicate (k + 1) (0 : Int)).length = m + 1 + (k + 1) := by
        rw [List.length_append, List.length_append, HL.out, List.length_replicate]; rfl
      obtain ⟨L5, hL5⟩ : ∃ L, ((l ++ [128]) ++ List.replicate (k + 1) (0 : Int)).length = L := ⟨_, rfl⟩
      rw [hL5] at ho4 hl5
      rw [hL5]
      have HL5 : Aside0 (L5 = m + 1 + (k + 1)) := ⟨hl5⟩
      clear hL5 hl5
      go_roundw
      case rel => exact ⟨k + 1, L5, A5, c5, by omega, HL5, rfl, ⟨ho4⟩, HB4⟩
      case measure => have := HL1.out; have := HL5.out; simp; omega
    · obtain rfl : k = padK m := by omega
      have h1 := hp.1
      rw [hL] at h1
      have b1 : ((L : Int) % 64 == 56) = true := by
        rw [beq_iff_eq]; omega
      have b2 : ((L : Int) % 64 != 56) = false := by
        rw [bne_eq_false_iff_eq]; omega
      have b3 : (L : Int) % 64 = 56 := by omega
      have HLB : Aside0 (L ≤ 1048700) := ⟨by omega⟩
      clear h1 hp hL
      obtain ⟨A7, c7, he7, hc7, hC7⟩ := Kd.R_reads KO.out
      injection he7 with e1 e2 e3
      subst e1; subst e3
      rw [← e2] at hC7 hc7
      have HC7 := Aside0.mk hC7
      have HCC7 := Aside0.mk hc7
      have hall : (l ++ [128] ++ List.replicate (padK m) 0) ++ bytesBE 8 (8 * (m : Int)) = allL l := by unfold allL padL; rw [HL.out]
      have HALL := Aside0.mk hall
      clear hC7 hc7 e2 hall
      go_wp2_with (first
        | (go_at_call 96; (with_reducible refine (rf_putlong A' L c' _ (8 * (m : Int)) _ HC7.out HCC7.out (by have := HLB.out; omega)).mono ?_); rintro e w5 ⟨v5, rfl, hR, hb⟩; rw [HALL.out] at hR; have HR5 := Aside0.mk hR; have HB5 := Aside0.mk (below_step KB.out hb); clear hR hb)
        | (go_at_call 97; (with_reducible refine (rf_begin _).mono ?_); rintro e w6 ⟨v6, rfl, hR, hb⟩; have HS6 := Aside0.mk (Kd.R_lower hR HB5.out.size); have HR6 := Aside0.mk (Kd.R_below HR5.out hb); have HB6 := Aside0.mk (below_step HB5.out hb); clear hR hb))
      obtain ⟨A8, c8, rfl, hc8, _⟩ := Kd.R_reads HR6.out
      have hQ : ∀ W, Below w6.heap.size w6 W → Kd.C (Kd.int .u8) W A8 (allL l).length (allL l) := fun W hb => by
        obtain ⟨A9, c9, he, _, hC⟩ := Kd.R_reads (Kd.R_below HR6.out hb)
        injection he with he _ _
        subst he
        exact hC
      have hqb : IsB (allL l) := IsB.append (padL_b HX.out) (bytesBE_b _ _)
      obtain ⟨QQ, hQQ⟩ : ∃ QQ, allL l = QQ := ⟨_, rfl⟩
      obtain ⟨LQ, hLQ⟩ : ∃ LQ, QQ.length = LQ := ⟨_, rfl⟩
      have hlq : LQ % 64 = 0 ∧ LQ ≤ 1048800 := by
        rw [← hLQ, ← hQQ]
        unfold allL
        rw [List.length_append, padL_len, bytesBE_len, HL.out]
        have h1 := (padK_at m).1
        have h2 := padK_lt m
        have h3 := HM.out
        omega
      have hdig : digR l = w8B (foldN (LQ / 64) QQ IV) := by unfold digR; rw [hQQ, hLQ]
      rw [hQQ] at hQ hqb hc8
      rw [hLQ] at hQ hc8
      rw [hQQ, hLQ]
      have HQ := Aside0.mk hQ
      have HQB := Aside0.mk hqb
      have HC8 := Aside0.mk hc8
      have HLQ := Aside0.mk hlq
      have HLEN := Aside0.mk hLQ
      have HDIG := Aside0.mk hdig
      have HZ6 := Aside0.mk (Below.refl w6.heap.size w6)
      have HS60 : Aside0 (Kd.R (Kd.int .u32) 95 w6 w.heap.size (fun _ => True) v6 (w8I (foldN 0 QQ IV))) := HS6
      clear hQ hqb hc8 hlq hLQ hdig hQQ HR5 HB5 HALL HC7 HCC7 HR6 HS6
      go_loopw [5, 6] (fun v5 v6 wr => ∃ (i K : Nat), Aside0 (K = 64 * i) ∧ K ≤ LQ ∧ v6 = .int .i64 K ∧ Aside0 (Kd.R (Kd.int .u32) 95 wr w.heap.size (fun _ => True) v5 (w8I (foldN i QQ IV))) ∧ Aside0 (Below w6.heap.size w6 wr)) (fun _ v6 _ => LQ - (intOf v6).toNat)
      case atStart => exact ⟨0, 0, ⟨rfl⟩, Nat.zero_le _, rfl, HS60, HZ6⟩
      case round =>
        clear HS60 HZ6
        obtain ⟨i, K, KI, hK, rfl, KS, KZ⟩ := hrel
        obtain ⟨Ab, cb, rfl, hcb, hCb⟩ := Kd.R_reads KS.out
        have hl8 : ∀ s : W8, (w8I s).length = 8 := fun _ => rfl
        rw [hl8] at hcb hCb
        rw [hl8]
        have HCB := Aside0.mk hCb
        have HCBC := Aside0.mk hcb
        clear hl8 hCb hcb
        by_cases hlt : K < LQ
        · have hK64 : K + 64 ≤ LQ := by have h1 := HLQ.out; have h2 := KI.out; omega
          obtain ⟨A', hcut, hC'⟩ := sc_mid c8 K 64 (HQ.out _ KZ.out) hK64 HC8.out
          have hcut' : ∀ W : World, (Instr.slice 36 (.slice A8 LQ c8) (some (.int .i64 (K : Int))) (some (.int .i64 ((K : Int) + 64))) none).run Try.prog W = .ok (.slice A' 64 (c8 - K)) W := hcut
          have HCUT := Aside0.mk hcut'
          have hrow : (QQ.take (K + 64)).drop K = (QQ.drop (64 * i)).take 64 := by rw [List.drop_take, show K + 64 - K = 64 by omega, KI.out]
          rw [hrow] at hC'
          have HC' := Aside0.mk hC'
          have hfold := foldN_succ i QQ IV
          have HF := Aside0.mk hfold
          have HKC : Aside0 (64 ≤ c8 - K) := ⟨by have := HC8.out; omega⟩
          have t1 : (K : Int) < (LQ : Int) := by omega
          have t2 : (K : Int) + 64 ≤ 1048800 := by have h1 := HLQ.out; omega
          have HK64 := Aside0.mk hK64
          clear hcut hcut' hC' hrow hfold hK64
          go_wp2_with (first
            | ((with_reducible refine gate_dst (N := 44) rfl ?_); refine x_slice rfl 36 5 Try.underlying36 (.tmp 40) (some (.tmp 41)) (some (.tmp 43)) none rfl _ _ _ _ rfl rfl rfl rfl (.slice A' 64 (c8 - K)) HCUT.out ?_; simp only [Act.put, List.setIfInBounds_toArray, List.set_cons_zero, List.set_cons_succ])
            | (go_at_call 98; (with_reducible refine (rf_block (foldN i QQ IV) Ab A' cb (c8 - K) _ _ ((HQB.out.drop _).take _) HCB.out HCBC.out HC'.out HKC.out).mono ?_); rintro e w9 ⟨v9, rfl, hR, hb⟩; rw [← HF.out] at hR; have HR9 := Aside0.mk (Kd.R_lower hR (Nat.le_trans HB6.out.size KZ.out.size)); have HB9 := Aside0.mk (below_step KZ.out hb); clear hR hb))
          go_roundw
          case rel => exact ⟨i + 1, K + 64, ⟨by have := KI.out; omega⟩, HK64.out, by simp, HR9, HB9⟩
          case measure => simp [intOf]; omega
        · have hi : i = LQ / 64 := by have h1 := HLQ.out; have h2 := KI.out; omega
          have HI := Aside0.mk hi
          clear hi
          go_wp2_with (go_at_call 85; (with_reducible refine (rf_put8 Ab cb (foldN i QQ IV) _ HCB.out HCBC.out).mono ?_); rintro e w9 ⟨v9, rfl, hR, hb⟩; have HR9 := Aside0.mk (Kd.R_lower hR (Nat.le_trans HB6.out.size KZ.out.size)); have HB9 := Aside0.mk (below_step HB6.out (KZ.out.trans (hb.mono KZ.out.size))); clear hR hb)
          go_ret2
          exact ⟨v9, rfl, by rw [HDIG.out, ← HI.out]; exact HR9.out, HB9.out⟩
end Go.Proofs.Ytaoiamifofkklaa.Obj
