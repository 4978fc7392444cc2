/- Contracts of Go functions that the claims of this seat share. -/
import Derived.Test.YtaoiamifofkklaaProg
import Derived.Below
import Derived.Deep.Draws
import Derived.Deep.AppendLies
import Derived.Maps.AppendAt
import Derived.OwnWalk
import Derived.Laws.BytesArg
import Derived.Laws.MakeOwn
import Derived.Laws.OwnMore
import Derived.Deep.OwnRows
import Derived.Tactics
import Derived.Lib.ConvBytes
import Derived.Laws.Slices
import Derived.WalkKit
import Derived.KernelRfl
import Derived.RowKit3
import Derived.Deep.LoopGhost
import Derived.Deep.QuietTactic
import Derived.BigQuiet
import Derived.WideLaws
import Derived.Deep.DeepCutAuto
import Derived.Deep.CutBlock
import Derived.Deep.RegionHeld3
import Derived.Laws.Rows
import Derived.Lib.AppendStr
import Derived.ArgAppend
import Derived.Laws.IdiomCopy
import Derived.OrdersHeld
import Derived.Laws.BitsLemmas
import Derived.RowKit
import Derived.Test.YtaoiamifofkklaaWWords
import Derived.Test.YtaoiamifofkklaaWLast
import Derived.Test.YtaoiamifofkklaaWTab
import Derived.Test.YtaoiamifofkklaaWFour
import Derived.Test.YtaoiamifofkklaaWQPut
import Derived.Test.YtaoiamifofkklaaWApart
import Derived.Test.YtaoiamifofkklaaWArr
import Derived.Test.YtaoiamifofkklaaWZeros
import Derived.Test.YtaoiamifofkklaaWFoot
import Derived.Test.YtaoiamifofkklaaWKept
import Derived.Test.YtaoiamifofkklaaWShare
import Derived.Test.YtaoiamifofkklaaWN
import Derived.Test.YtaoiamifofkklaaWFootNe
import Derived.Test.YtaoiamifofkklaaWAt
import Derived.Test.YtaoiamifofkklaaWEqStruct
import Derived.Test.YtaoiamifofkklaaWRepsOne
import Derived.Test.YtaoiamifofkklaaWInv
import Derived.Test.YtaoiamifofkklaaWInvWords
import Derived.Test.YtaoiamifofkklaaWGuard
import Derived.Test.YtaoiamifofkklaaWNEv
import Derived.Test.YtaoiamifofkklaaWMore
import Derived.Test.YtaoiamifofkklaaX0Mem
import Derived.Test.YtaoiamifofkklaaX1Pure
import Derived.Test.YtaoiamifofkklaaXFlashA
namespace Go.Proofs.Ytaoiamifofkklaa.Obj
open Go.RowKit Go.Proofs.YtaoiamifofkklaaW.PrintWords Go.Proofs.YtaoiamifofkklaaW.PrintLast Go.Proofs.YtaoiamifofkklaaW.PrintMore
set_option linter.unusedVariables false
set_option linter.unusedSimpArgs false
set_option maxHeartbeats 4000000 in
set_option maxRecDepth 100000 in
theorem fl_copy (B : Nat) (base : Nat) (v : Value) (b : List Int) (is : Bool) (sk n : Int) (dead : Bool) (wr : Int) (w : World) (h : Fl w base B v b is sk n dead wr) (hl : b.length ≤ 4096) :
    Calls Try.prog 24 #[.pointer (some ⟨B, 0, none⟩)] w fun e w' => ∃ B' v', e = .returned (.pointer (some ⟨B', 0, none⟩)) ∧ Fl w' w.heap.size B' v' b is sk n dead wr ∧ Below w.heap.size w w' := by
  obtain ⟨A0, cap, rfl, hlc, hC⟩ := h.slice
  obtain ⟨hb, hh, hr⟩ := h
  obtain ⟨len, hlen⟩ : ∃ len, b.length = len := ⟨_, rfl⟩
  rw [hlen] at hl hC hh
  have hu := Try.underlying66
  have hu2 := Try.underlying64
  have h6 := (blk_cell hh 6).trans rfl
  have g0 := (blk_cell hh 0).trans rfl
  have g1 := (blk_cell hh 1).trans rfl
  have g2 := (blk_cell hh 2).trans rfl
  have g3 := (blk_cell hh 3).trans rfl
  have g4 := (blk_cell hh 4).trans rfl
  have g5 := (blk_cell hh 5).trans rfl
  have HN := Aside0.mk (fl_none B w h6)
  have HC := Aside0.mk hC
  have HL := Aside0.mk hlen
  have HH := Aside0.mk hh
  have hBlt := blk_lt hh
  clear hr hC hlen hlc hb hh
  go_enter Try.func24, Try.ntmps24
  go_wp2_with (first
    | (go_at_call 70; refine HN.out.mono ?_; rintro e w1 ⟨rfl, rfl⟩)
    | ((with_reducible refine gate_dst (N := 13) rfl ?_); (refine x_append .u8 w1.heap.size rfl _ _ 36 5 1 rfl Try.underlying36 fl_info (by decide) (.slice none 0 0) [] b A0 len cap rfl rfl (Kd.R_nil _ _ _ _ _) (Kd.C_below HC.out (below_alloc (Below.refl w1.heap.size w1) _)) (below_alloc (Below.refl w1.heap.size w1) _) (by simp) (by simp; omega) ?_); intro v1 w2 ho1 hb1 hg1 hn1; obtain ⟨A1, c1, rfl⟩ := Kd.R_slice ho1; have HO := Aside0.mk ho1; have HB := Aside0.mk hb1; have hB' := blk_grown (blk_new w1 _) hg1 (by simp [Value.ownBlock]); have c0' := (blk_cell hB' 0).trans rfl; have f0' := blk_frozen hB' 0; have HB' := Aside0.mk hB'; clear ho1 hb1 hg1 hn1 hB'))
  go_ret
  obtain ⟨inner, ho⟩ := Kd.R_own HO.out
  have hne := own_ne ho HB'.out (by decide)
  refine ⟨_, _, rfl, ⟨Nat.le_refl _, by have q := HB'.out; simp [World.setCell, Array.getElem?_modify, q], fl_set HO.out hne _ _⟩, fl_below_set HB.out (Nat.le_refl _)⟩
theorem rep_set {α : Type} (n i : Nat) (x z : α) (hi : i < n) : (List.replicate i x ++ List.replicate (n - i) z).set i x = List.replicate (i + 1) x ++ List.replicate (n - (i + 1)) z := by
  obtain ⟨m, rfl⟩ : ∃ m, n = i + (m + 1) := ⟨n - i - 1, by omega⟩
  rw [show i + (m + 1) - i = m + 1 by omega, show i + (m + 1) - (i + 1) = m by omega, List.replicate_succ, List.set_append_right _ _ (by simp), List.length_replicate, Nat.sub_self, List.set_cons_zero, List.replicate_succ', List.append_assoc, List.singleton_append]
theorem Fl.put {w : World} {base B g n q : Nat} {b : List Int} {is : Bool} {sk k : Int} {dead : Bool} {wr : Int} (h : Fl w base B (.slice (some ⟨g, 0, none⟩) n q) b is sk k dead wr) (i : Nat) (x : Int) : Fl (w.setCell ⟨g, i, none⟩ (.int .u8 x)) base B (.slice (some ⟨g, 0, none⟩) n q) (b.set i x) is sk k dead wr := by
  have hne := h.ne
  have hp := Kd.R_putn h.2.2 (i : Int) x
  rw [Int.toNat_natCast] at hp
  exact ⟨h.1, blk_far h.2.1 (p := ⟨g, i, none⟩) (fun e => hne (by rw [e]; rfl)) _, hp⟩
set_option maxHeartbeats 4000000 in
set_option maxRecDepth 100000 in
theorem fl_new_no (n : Int) (w : World) (h : n < 0 ∨ 4096 < n) :
    Calls Try.prog 23 #[.int .i64 n] w fun e w' => e = .returned (.tuple #[.pointer none, .int .i64 1]) ∧ w' = w := by
  rcases h with h | h
  · go_enter Try.func23, Try.ntmps23
    go_wp2
    go_ret2
    exact ⟨rfl, rfl⟩
  · have h' : ¬ n < 0 := by omega
    go_enter Try.func23, Try.ntmps23
    go_wp2
    go_ret2
    exact ⟨rfl, rfl⟩
set_option maxHeartbeats 4000000 in
set_option maxRecDepth 100000 in
theorem fl_new (n : Nat) (w : World) (h : n ≤ 4096) :
    Calls Try.prog 23 #[.int .i64 n] w fun e w' => ∃ B v, e = .returned (.tuple #[.pointer (some ⟨B, 0, none⟩), .int .i64 0]) ∧ Fl w' w.heap.size B v (List.replicate n 255) false 0 0 false 0 ∧ Below w.heap.size w w' := by
  have hu := Try.underlying66
  have hu2 := Try.underlying64
  go_enter Try.func23, Try.ntmps23
  go_wp2_with (at_make; refine x_makecap .u8 _ 5 rfl (N := 13) rfl 36 _ _ rfl _ _ rfl rfl Try.underlying36 1 fl_info (by decide) (by omega) (by omega) (by omega) (Below.refl w.heap.size w) (Nat.le_refl _) ?_; intro v1 w2 ho1 hb1 hg1 hn1; rw [Int.toNat_natCast] at ho1; obtain ⟨gv, qv, rfl⟩ := fl_form ho1 hn1; have HO := Aside0.mk ho1; have HB1 := Aside0.mk hb1; clear ho1 hb1 hg1 hn1)
  have hF : Fl (w2.alloc (.cells #[.slice (some ⟨gv, 0, none⟩) n qv, .bool false, .int .i64 0, .int .i64 0, .bool false, .int .i64 0, .bool true] 66)) w.heap.size w2.heap.size (.slice (some ⟨gv, 0, none⟩) n qv) (List.replicate 0 255 ++ List.replicate (n - 0) 0) false 0 0 false 0 := ⟨HB1.out.size, blk_new _ _, by simpa using Kd.R_below HO.out (below_alloc (Below.refl _ _) _)⟩
  have hB : Below w.heap.size w (w2.alloc (.cells #[.slice (some ⟨gv, 0, none⟩) n qv, .bool false, .int .i64 0, .int .i64 0, .bool false, .int .i64 0, .bool true] 66)) := HB1.out.alloc HB1.out.size _
  have HF := Aside0.mk hF
  have HBB := Aside0.mk hB
  have hg : w.heap.size ≤ gv := by
    obtain ⟨inner, ho⟩ := Kd.R_own HO.out
    exact own_base ho gv (by simp [Value.ownBlock])
  have HG := Aside0.mk hg
  obtain ⟨B, hBe⟩ : ∃ B, w2.heap.size = B := ⟨_, rfl⟩
  rw [hBe] at HF ⊢
  clear hF hB hg HO HB1
  go_loopw [21] (fun v21 wr => ∃ i : Nat, i ≤ n ∧ v21 = .int .i64 i ∧ Aside0 (Fl wr w.heap.size B (.slice (some ⟨gv, 0, none⟩) n qv) (List.replicate i 255 ++ List.replicate (n - i) 0) false 0 0 false 0) ∧ Aside0 (Below w.heap.size w wr)) (fun v21 _ => n - (intOf v21).toNat)
  case atStart => exact ⟨0, by omega, rfl, HF, HBB⟩
  case round =>
    clear HF HBB
    obtain ⟨i, hi, rfl, KF, KB⟩ := hrel
    by_cases hlt : i < n
    · have c0 := (blk_cell KF.out.2.1 0).trans rfl
      obtain ⟨hx, hf⟩ := Kd.R_celln (0 : Int) KF.out.2.2 (i : Int) (by omega) (by omega)
      rw [Int.toNat_natCast] at hx hf
      go_wp2
      go_roundw
      case rel =>
        refine ⟨i + 1, by omega, by simp, ⟨?_⟩, ⟨fl_below_set KB.out HG.out⟩⟩
        have q := KF.out.put i 255
        rw [rep_set n i 255 0 hlt] at q
        exact q
      case measure => simp [intOf]; omega
    · obtain rfl : i = n := by omega
      go_wp2
      go_ret2
      refine ⟨B, .slice (some ⟨gv, 0, none⟩) i qv, rfl, ?_, KB.out⟩
      have q := KF.out
      simpa using q
theorem kept_of {w w' : World} {B : Nat} {row : Option Nat} (h : KeepBut w w' B row) : Kept w w' (fun k => k = B ∨ some k = row) := ⟨h.1, fun i hi hn => h.2 i hi (fun e => hn (.inl e)) (fun e => hn (.inr e))⟩
theorem fl_arg {w0 w : World} {A : Option Addr} {m : Nat} {xs : List Int} {base B : Nat} {v : Value} {b : List Int} {is : Bool} {sk n : Int} {dead : Bool} {wr : Int} (h : Kd.C (Kd.int .u8) w0 A m xs) (hb : Below w0.heap.size w0 w) (hF : Fl w base B v b is sk n dead wr) (hle : w0.heap.size ≤ base) :
    ∀ W', KeepBut w W' B v.ownBlock → Kd.C (Kd.int .u8) W' A m xs := by
  intro W' hk
  refine Kd.C_kept_came (Kd.heap_int .u8) h hb (S := fun k => k = B ∨ some k = v.ownBlock) ?_ W' (kept_of hk)
  rintro k (rfl | hk)
  · exact Nat.le_trans hle hF.1
  · obtain ⟨inner, ho⟩ := Kd.R_own hF.2.2
    exact Nat.le_trans hle (own_base ho k hk.symm)
theorem fl_read_n (B : Nat) (base : Nat) (v : Value) (b : List Int) (is : Bool) (sk k : Int) (wr : Int) (a n : Nat) (w : World) (h : Fl w base B v b is sk k false wr) (hl : b.length ≤ 4096) (hn : 0 < n) (han : a + n ≤ b.length) :
    Calls Try.prog 26 #[.pointer (some ⟨B, 0, none⟩), .int .i64 a, .int .i64 n] w fun e w' => ∃ g q, e = .returned (.tuple #[.slice (some ⟨g, 0, none⟩) n q, .int .i64 0]) ∧ Aside0 (Kd.R (Kd.int .u8) 5 w' w.heap.size (fun _ => True) (.slice (some ⟨g, 0, none⟩) n q) ((b.drop a).take n)) ∧ Aside0 (Below w.heap.size w w') := by
  refine (fl_read B base v b is sk k false wr (a : Int) (n : Int) w h hl).mono ?_
  rintro e w' ⟨v1, rfl, hR, hb⟩
  have hz : mayV false b.length (a : Int) (n : Int) = 0 := by unfold mayV; rw [if_neg (by decide), if_neg (by omega)]
  have hread : readV false b (a : Int) (n : Int) = (b.drop a).take n := by unfold readV; rw [if_pos hz, Int.toNat_natCast, Int.toNat_natCast]
  rw [hread] at hR
  have hlen : ((b.drop a).take n).length = n := by rw [List.length_take, List.length_drop]; omega
  obtain ⟨g, q, rfl, _⟩ := Kd.R_form hR (by omega)
  rw [hlen] at hR ⊢
  exact ⟨g, q, by rw [hz], ⟨hR⟩, ⟨hb⟩⟩
set_option maxHeartbeats 4000000 in
set_option maxRecDepth 100000 in
theorem fl_awake (w : World) : Calls Try.prog 27 #[] w fun e w' => e = .returned (.bool true) ∧ Below w.heap.size w w' := by
  have hu := Try.underlying66
  go_enter Try.func27, Try.ntmps27
  go_wp2_with (first
    | (go_at_call 23; refine (fl_new 4 _ (by omega)).mono ?_; rintro e w1 ⟨B, v, rfl, hF, hb⟩; obtain ⟨A, c, rfl, _, _⟩ := hF.slice; have h6 := (blk_cell hF.2.1 6).trans rfl; have h0 := (blk_cell hF.2.1 0).trans rfl; have HB := Aside0.mk hb; have HL := Aside0.mk (fl_len B A 4 c w1 h6 h0 (by omega)); clear hF hb h6 h0)
    | (go_at_call 40; refine HL.out.mono ?_; rintro e w2 ⟨rfl, rfl⟩))
  go_ret
  exact ⟨rfl, HB.out⟩
theorem fl_read_i (B : Nat) (base : Nat) (v : Value) (b : List Int) (is : Bool) (sk k : Int) (wr : Int) (a n : Int) (a' n' : Nat) (w : World) (ea : a = (a' : Int)) (en : n = (n' : Int)) (h : Fl w base B v b is sk k false wr) (hl : b.length ≤ 4096) (hn : 0 < n') (han : a' + n' ≤ b.length) :
    Calls Try.prog 26 #[.pointer (some ⟨B, 0, none⟩), .int .i64 a, .int .i64 n] w fun e w' => ∃ g q, e = .returned (.tuple #[.slice (some ⟨g, 0, none⟩) n' q, .int .i64 0]) ∧ Aside0 (Kd.R (Kd.int .u8) 5 w' w.heap.size (fun _ => True) (.slice (some ⟨g, 0, none⟩) n' q) ((b.drop a').take n')) ∧ Aside0 (Below w.heap.size w w') := by
  subst ea; subst en
  exact fl_read_n B base v b is sk k wr a' n' w h hl hn han
end Go.Proofs.Ytaoiamifofkklaa.Obj
