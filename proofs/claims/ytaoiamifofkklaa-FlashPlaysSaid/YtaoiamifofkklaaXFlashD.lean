/- Contracts of Go functions that the claims of this seat share. -/
import Derived.Test.YtaoiamifofkklaaProg
import Derived.Below
import Derived.Deep.Draws
import Derived.Deep.AppendLies
import Derived.Maps.AppendAt
import Derived.OwnWalk
import Derived.Laws.BytesArg
import Derived.Laws.MakeOwn
import Derived.Laws.OwnMore
import Derived.Deep.OwnRows
import Derived.Tactics
import Derived.Lib.ConvBytes
import Derived.Laws.Slices
import Derived.WalkKit
import Derived.KernelRfl
import Derived.RowKit3
import Derived.Deep.LoopGhost
import Derived.Deep.QuietTactic
import Derived.BigQuiet
import Derived.WideLaws
import Derived.Deep.DeepCutAuto
import Derived.Deep.CutBlock
import Derived.Deep.RegionHeld3
import Derived.Laws.Rows
import Derived.Lib.AppendStr
import Derived.ArgAppend
import Derived.Laws.IdiomCopy
import Derived.OrdersHeld
import Derived.Laws.BitsLemmas
import Derived.RowKit
import Derived.Test.YtaoiamifofkklaaWWords
import Derived.Test.YtaoiamifofkklaaWLast
import Derived.Test.YtaoiamifofkklaaWTab
import Derived.Test.YtaoiamifofkklaaWFour
import Derived.Test.YtaoiamifofkklaaWQPut
import Derived.Test.YtaoiamifofkklaaWApart
import Derived.Test.YtaoiamifofkklaaWArr
import Derived.Test.YtaoiamifofkklaaWZeros
import Derived.Test.YtaoiamifofkklaaWFoot
import Derived.Test.YtaoiamifofkklaaWKept
import Derived.Test.YtaoiamifofkklaaWShare
import Derived.Test.YtaoiamifofkklaaWN
import Derived.Test.YtaoiamifofkklaaWFootNe
import Derived.Test.YtaoiamifofkklaaWAt
import Derived.Test.YtaoiamifofkklaaWEqStruct
import Derived.Test.YtaoiamifofkklaaWRepsOne
import Derived.Test.YtaoiamifofkklaaWInv
import Derived.Test.YtaoiamifofkklaaWInvWords
import Derived.Test.YtaoiamifofkklaaWGuard
import Derived.Test.YtaoiamifofkklaaWNEv
import Derived.Test.YtaoiamifofkklaaWMore
import Derived.Test.YtaoiamifofkklaaX0Mem
import Derived.Test.YtaoiamifofkklaaX1Pure
import Derived.Test.YtaoiamifofkklaaXFlashC
namespace Go.Proofs.Ytaoiamifofkklaa.Obj
open Go.RowKit Go.Proofs.YtaoiamifofkklaaW.PrintWords Go.Proofs.YtaoiamifofkklaaW.PrintLast Go.Proofs.YtaoiamifofkklaaW.PrintMore
set_option linter.unusedVariables false
set_option linter.unusedSimpArgs false
/-- the reference's flash in memory -/
def Rf (w : World) (base B : Nat) (v : Value) (b : List Int) (skip torn : Int) (dead : Bool) (n : Int) : Prop :=
  base ≤ B ∧ w.heap[B]? = some (.cells #[v, .int .i64 skip, .int .i64 torn, .bool dead, .int .i64 n] 82 (0, 0)) ∧ Kd.R (Kd.int .u8) 5 w base (fun _ => True) v b
theorem Rf.below {w w' : World} {base B : Nat} {v : Value} {b : List Int} {skip torn : Int} {dead : Bool} {n : Int} (h : Rf w base B v b skip torn dead n) (hb : Below w.heap.size w w') : Rf w' base B v b skip torn dead n :=
  ⟨h.1, blk_below h.2.1 hb, Kd.R_below h.2.2 hb⟩
theorem Rf.ne {w : World} {base B : Nat} {v : Value} {b : List Int} {skip torn : Int} {dead : Bool} {n : Int} (h : Rf w base B v b skip torn dead n) : some B ≠ v.ownBlock := by
  obtain ⟨inner, ho⟩ := Kd.R_own h.2.2
  exact own_ne ho h.2.1 (by decide)
set_option maxHeartbeats 4000000 in
set_option maxRecDepth 100000 in
theorem rf_tear (B : Nat) (base : Nat) (v : Value) (b : List Int) (skip torn : Int) (dead : Bool) (n x y : Int) (w : World) (h : Rf w base B v b skip torn dead n) :
    Calls Try.prog 50 #[.pointer (some ⟨B, 0, none⟩), .int .i64 x, .int .i64 y] w fun e w' => (∃ v, e = .returned v) ∧ Rf w' base B v b (if 0 ≤ x ∧ 0 ≤ y then x else -1) (if 0 ≤ x ∧ 0 ≤ y then y else torn) dead n ∧ KeepBut w w' B none ∧ Below base w w' := by
  have hne := h.ne
  obtain ⟨hb, hh, hr⟩ := h
  have hu := Try.underlying82
  have g1 := (blk_cell hh 1).trans rfl
  have g2 := (blk_cell hh 2).trans rfl
  have f1 := blk_frozen hh 1
  have f2 := blk_frozen hh 2
  have HH := Aside0.mk hh
  have HR := Aside0.mk hr
  have HB := Aside0.mk hb
  have HNE := Aside0.mk hne
  clear hh hr hb hne
  by_cases c1 : 0 ≤ x
  · by_cases c2 : 0 ≤ y
    · go_enter Try.func50, Try.ntmps50
      go_wp2
      go_end0
      exact ⟨⟨_, rfl⟩, ⟨HB.out, by have q := HH.out; simp [World.setCell, Array.getElem?_modify, q, c1, c2], by repeat (first | (with_reducible exact HR.out) | (with_reducible refine fl_set ?_ HNE.out _ _))⟩, by repeat (first | (with_reducible exact KeepBut.refl _ _ _) | (with_reducible refine fl_keep_set ?_)), by repeat (first | (with_reducible exact Below.refl _ _) | (with_reducible refine fl_below_set ?_ HB.out))⟩
    · go_enter Try.func50, Try.ntmps50
      go_wp2
      go_end0
      exact ⟨⟨_, rfl⟩, ⟨HB.out, by have q := HH.out; simp [World.setCell, Array.getElem?_modify, q, c1, c2], by repeat (first | (with_reducible exact HR.out) | (with_reducible refine fl_set ?_ HNE.out _ _))⟩, by repeat (first | (with_reducible exact KeepBut.refl _ _ _) | (with_reducible refine fl_keep_set ?_)), by repeat (first | (with_reducible exact Below.refl _ _) | (with_reducible refine fl_below_set ?_ HB.out))⟩
  · go_enter Try.func50, Try.ntmps50
    go_wp2
    go_end0
    exact ⟨⟨_, rfl⟩, ⟨HB.out, by have q := HH.out; simp [World.setCell, Array.getElem?_modify, q, c1], by repeat (first | (with_reducible exact HR.out) | (with_reducible refine fl_set ?_ HNE.out _ _))⟩, by repeat (first | (with_reducible exact KeepBut.refl _ _ _) | (with_reducible refine fl_keep_set ?_)), by repeat (first | (with_reducible exact Below.refl _ _) | (with_reducible refine fl_below_set ?_ HB.out))⟩
set_option maxHeartbeats 4000000 in
set_option maxRecDepth 100000 in
theorem rf_wake (B : Nat) (base : Nat) (v : Value) (b : List Int) (skip torn : Int) (dead : Bool) (n : Int) (w : World) (h : Rf w base B v b skip torn dead n) :
    Calls Try.prog 51 #[.pointer (some ⟨B, 0, none⟩)] w fun e w' => (∃ v, e = .returned v) ∧ Rf w' base B v b (-1) torn false n ∧ KeepBut w w' B none ∧ Below base w w' := by
  have hne := h.ne
  obtain ⟨hb, hh, hr⟩ := h
  have hu := Try.underlying82
  have g1 := (blk_cell hh 1).trans rfl
  have g3 := (blk_cell hh 3).trans rfl
  have f1 := blk_frozen hh 1
  have f3 := blk_frozen hh 3
  have HH := Aside0.mk hh
  have HR := Aside0.mk hr
  have HB := Aside0.mk hb
  have HNE := Aside0.mk hne
  clear hh hr hb hne
  go_enter Try.func51, Try.ntmps51
  go_wp2
  go_end0
  exact ⟨⟨_, rfl⟩, ⟨HB.out, by have q := HH.out; simp [World.setCell, Array.getElem?_modify, q], by repeat (first | (with_reducible exact HR.out) | (with_reducible refine fl_set ?_ HNE.out _ _))⟩, by repeat (first | (with_reducible exact KeepBut.refl _ _ _) | (with_reducible refine fl_keep_set ?_)), by repeat (first | (with_reducible exact Below.refl _ _) | (with_reducible refine fl_below_set ?_ HB.out))⟩
theorem rf_step {wr w1 : World} {B base g1 c2 c1 : Nat} {A1 : Option Addr} {L : List Int} {y : Int} {o : Obj} {skip torn n : Int} {dead : Bool} (h : Rf wr base B (.slice A1 L.length c1) L skip torn dead n) (ho1 : Kd.R (Kd.int .u8) 5 w1 base (fun _ => True) (.slice (some ⟨g1, 0, none⟩) (L.length + 1) c2) (L ++ [y])) (hb1 : Below base wr w1)
    (hg1 : (wr.alloc o).grownBy w1 (Value.slice A1 L.length c1).ownBlock) :
    Rf (w1.setCell ⟨B, 0, none⟩ (.slice (some ⟨g1, 0, none⟩) (L.length + 1) c2)) base B (.slice (some ⟨g1, 0, none⟩) (L.length + 1) c2) (L ++ [y]) skip torn dead n ∧ Below base wr (w1.setCell ⟨B, 0, none⟩ (.slice (some ⟨g1, 0, none⟩) (L.length + 1) c2)) := by
  have hB0 := blk_lt h.2.1
  have hsz : wr.heap.size ≤ (wr.alloc o).heap.size := ((Below.refl 0 wr).alloc (Nat.zero_le _) o).size
  have hblk := ((hg1.block B (Nat.lt_of_lt_of_le hB0 hsz) h.ne).trans (Below.heap_alloc wr o B hB0)).trans h.2.1
  have hne1 : some B ≠ (Value.slice (some ⟨g1, 0, none⟩) (L.length + 1) c2).ownBlock := by
    obtain ⟨inner, hi⟩ := Kd.R_own ho1
    exact own_ne hi hblk (by decide)
  exact ⟨⟨h.1, by simp [World.setCell, Array.getElem?_modify, hblk], fl_set ho1 hne1 _ _⟩, hb1.setCell (p := ⟨B, 0, none⟩) h.1 _⟩
set_option maxHeartbeats 8000000 in
set_option maxRecDepth 100000 in
theorem rf_new (n : Nat) (w : World) (h : n ≤ 4096) :
    Calls Try.prog 48 #[.int .i64 n] w fun e w' => ∃ B v, e = .returned (.tuple #[.pointer (some ⟨B, 0, none⟩), .int .i64 0]) ∧ Rf w' w.heap.size B v (List.replicate n 255) (-1) 0 false 0 ∧ Below w.heap.size w w' := by
  have hu := Try.underlying82
  go_enter Try.func48, Try.ntmps48
  go_wp2
  have hF : Rf (w.alloc (.cells #[.slice none 0 0, .int .i64 (-1), .int .i64 0, .bool false, .int .i64 0] 82)) w.heap.size w.heap.size (.slice none 0 0) [] (-1) 0 false 0 := ⟨Nat.le_refl _, blk_new _ _, Kd.R_nil _ _ _ _ _⟩
  have HF := Aside0.mk hF
  have HB1 : Aside0 (Below w.heap.size w (w.alloc (.cells #[.slice none 0 0, .int .i64 (-1), .int .i64 0, .bool false, .int .i64 0] 82))) := ⟨(Below.refl _ _).alloc (Nat.le_refl _) _⟩
  obtain ⟨B, hBe⟩ : ∃ B, B = w.heap.size := ⟨_, rfl⟩
  have HBE := Aside0.mk hBe
  have HF : Aside0 (Rf (w.alloc (.cells #[.slice none 0 0, .int .i64 (-1), .int .i64 0, .bool false, .int .i64 0] 82)) w.heap.size B (.slice none 0 0) [] (-1) 0 false 0) := ⟨by rw [HBE.out]; exact hF⟩
  rw [← hBe]
  clear hF hBe
  go_loopw [5] (fun v5 wr => ∃ i : Nat, i ≤ n ∧ v5 = .int .i64 i ∧ ∃ v, Aside0 (Rf wr w.heap.size B v (List.replicate i 255) (-1) 0 false 0) ∧ Aside0 (Below w.heap.size w wr)) (fun v5 _ => n - (intOf v5).toNat)
  case atStart => exact ⟨0, Nat.zero_le _, rfl, _, HF, HB1⟩
  case round =>
    clear HF HB1
    obtain ⟨i, hi, rfl, v, KF, KB⟩ := hrel
    by_cases hlt : i < n
    · obtain ⟨L, hL⟩ : ∃ L, List.replicate i (255 : Int) = L := ⟨_, rfl⟩
      have hs : List.replicate (i + 1) (255 : Int) = L ++ [255] := by rw [← hL, List.replicate_succ']
      have hLl : L.length ≤ 4096 := by rw [← hL, List.length_replicate]; omega
      rw [hL] at KF
      have HS := Aside0.mk hs
      have HLB := Aside0.mk hLl
      obtain ⟨A1, c1, rfl, hlc1, hC1⟩ := Kd.R_reads KF.out.2.2
      have q0 := (blk_cell KF.out.2.1 0).trans rfl
      have hB0 := blk_lt KF.out.2.1
      have HBB := Aside0.mk (Nat.le_trans KF.out.1 (Nat.le_of_lt hB0))
      have hne := KF.out.ne
      have fz : ∀ W' : World, W'.heap[B]? = wr.heap[B]? → W'.frozen? ⟨B, 0, none⟩ = false := fun W' h => blk_frozen (h.trans KF.out.2.1) 0
      have hnn := World.new_ne wr ⟨B, 0, none⟩ q0
      clear hs hL hLl hlc1 hC1
      go_wp2_with ((with_reducible refine gate_dst (N := 25) rfl ?_); (refine x_append .u8 w.heap.size rfl (.tmp 23) (.tmp 24) 36 5 1 rfl Try.underlying36 fl_info (by decide) (.slice A1 L.length c1) L [255] (some ⟨wr.heap.size, 0, none⟩) 1 1 rfl rfl (Kd.R_below KF.out.2.2 (below_alloc (Below.refl _ _) _)) (x_lit_C .u8 wr 5 [255] (by simp)) ((Below.refl w.heap.size wr).alloc HBB.out _) (by simp; have := HBB.out; omega) (by have := HLB.out; omega) ?_); intro v1 w1 ho1 hb1 hg1 hn1; obtain ⟨g1, c2, rfl, _⟩ := Kd.R_form ho1 (by simp); have r0 := cell_grown hg1 ((World.cell?_alloc_lt _ _ _ hB0).trans q0) hne; have r1 := fz w1 ((hg1.block B (Nat.lt_of_lt_of_le hB0 ((Below.refl 0 wr).alloc (Nat.zero_le _) _).size) hne).trans (Below.heap_alloc wr _ B hB0)); rw [List.length_append] at ho1; obtain ⟨hw3, hb3⟩ := rf_step KF.out ho1 hb1 hg1; have HW3 := Aside0.mk hw3; have HB3 := Aside0.mk hb3; clear hw3 hb3 ho1 hb1 hg1 hn1 q0 hne hnn fz)
      go_roundw
      case rel => exact ⟨i + 1, by omega, by simp, _, ⟨by rw [HS.out]; exact HW3.out⟩, ⟨KB.out.trans HB3.out⟩⟩
      case measure => simp [intOf]; omega
    · obtain rfl : i = n := by omega
      go_wp2
      go_ret2
      exact ⟨B, v, rfl, KF.out, KB.out⟩
theorem fl_empty (W : World) (e : TypeId) : Kd.R (Kd.int .u8) e (W.alloc (.cells #[] e)) W.heap.size (fun _ => True) (.slice (some ⟨W.heap.size, 0, none⟩) 0 0) [] := by
  have h1 := own_lit W W.heap.size e .u8 [] (Nat.le_refl _) (by simp)
  exact Kd.R_of_own (enc := Value.int .u8) (h1 := fun _ => rfl) (ok := fun _ => True) h1 (fun _ _ => trivial)
set_option maxHeartbeats 4000000 in
set_option maxRecDepth 100000 in
theorem rf_read (B : Nat) (base : Nat) (v : Value) (b : List Int) (skip torn : Int) (dead : Bool) (wr : Int) (a n : Int) (w : World) (h : Rf w base B v b skip torn dead wr) (hl : b.length ≤ 4096) (hnw : -9223372036854775808 ≤ n ∧ n ≤ 9223372036854775807) :
    Calls Try.prog 52 #[.pointer (some ⟨B, 0, none⟩), .int .i64 a, .int .i64 n] w fun e w' => ∃ v1, e = .returned (.tuple #[v1, .int .i64 (mayV dead b.length a n)]) ∧ Kd.R (Kd.int .u8) 5 w' w.heap.size (fun _ => True) v1 (readV dead b a n) ∧ Below w.heap.size w w' := by
  obtain ⟨A, cap, rfl, hlc, hC⟩ := Kd.R_reads h.2.2
  obtain ⟨hb, hh, hr⟩ := h
  have hu := Try.underlying82
  have h3 := (blk_cell hh 3).trans rfl
  have h0 := (blk_cell hh 0).trans rfl
  by_cases hz : mayV dead b.length a n = 0
  · obtain ⟨rfl, c1, c2, c3, c4⟩ := mayV_zero hz
    obtain ⟨a, rfl⟩ : ∃ q : Nat, a = (q : Int) := ⟨a.toNat, by omega⟩
    obtain ⟨n, rfl⟩ : ∃ q : Nat, n = (q : Int) := ⟨n.toNat, by omega⟩
    have hread : readV false b (a : Int) (n : Int) = (b.drop a).take n := by unfold readV; rw [if_pos hz, Int.toNat_natCast, Int.toNat_natCast]
    rw [hz, hread]
    obtain ⟨i0, hi0, _, hsz, _⟩ := info_parts fl_info
    obtain ⟨A', hcut, hA, hCc⟩ := print_mid_int (P := Try.prog) (k := .u8) 36 5 Try.underlying36 hi0 hsz A cap b (a : Int) ((a : Int) + (n : Int)) (by omega) (by omega) c4 hlc
    rw [Int.toNat_natCast, show ((a : Int) + (n : Int)).toNat = a + n by omega] at hcut hA hCc
    have erow : (b.take (a + n)).drop a = (b.drop a).take n := by rw [List.drop_take, show a + n - a = n by omega]
    have el : ((b.drop a).take n).length = n := by rw [List.length_take, List.length_drop]; omega
    rw [erow] at hcut hA hCc
    have HC := Aside0.mk (Kd.C_of_reads (d := (0 : Int)) (h1 := fun _ => rfl) (hA w (Kd.reads_of_C hC)))
    rw [el] at hcut HC
    obtain ⟨row, hrow⟩ : ∃ row, (b.drop a).take n = row := ⟨_, rfl⟩
    rw [hrow] at HC ⊢
    obtain ⟨len, hlen⟩ : ∃ len, b.length = len := ⟨_, rfl⟩
    rw [hlen] at hcut h0 hl c3 c4 hh
    have HCUT := Aside0.mk hcut
    have HH := Aside0.mk hh
    have h0' : (w.alloc (.cells #[] 5)).cell? ⟨B, 0, none⟩ = some (.slice A len cap) := (World.cell?_alloc_lt _ _ _ (blk_lt hh)).trans h0
    clear hread hA hCc hC hr hi0 hsz hlc hh hlen hz erow el hrow hcut
    go_enter Try.func52, Try.ntmps52
    go_wp2_with (first
      | ((with_reducible refine gate_dst (N := 47) rfl ?_); refine x_slice rfl 36 5 Try.underlying36 (.tmp 42) (some (.tmp 43)) (some (.tmp 46)) none rfl _ _ _ _ rfl rfl rfl rfl (.slice A' n (cap - a)) HCUT.out ?_; simp only [Act.put, List.setIfInBounds_toArray, List.set_cons_zero, List.set_cons_succ])
      | ((with_reducible refine gate_dst (N := 48) rfl ?_); (refine x_append .u8 w.heap.size rfl (.tmp 38) (.tmp 47) 36 5 1 rfl Try.underlying36 fl_info (by decide) (.slice (some ⟨w.heap.size, 0, none⟩) 0 0) [] row A' n (cap - a) rfl rfl (fl_empty w 5) (Kd.C_below HC.out ((Below.refl _ w).alloc (Nat.le_refl _) _)) ((Below.refl _ w).alloc (Nat.le_refl _) _) (by simp) (by simp; omega) ?_); intro v1 w2 ho1 hb1 hg1 hn1; rw [List.nil_append] at ho1; have HO := Aside0.mk ho1; have HB2 := Aside0.mk hb1; clear ho1 hb1 hg1 hn1))
    go_ret2
    exact ⟨_, rfl, HO.out, HB2.out⟩
  · have hread : readV dead b a n = [] := by unfold readV; rw [if_neg hz]
    rw [hread]
    cases dead with
    | true =>
      have he : mayV true b.length a n = 5 := by unfold mayV; rfl
      rw [he]
      clear hh hr hC hz hread he
      go_enter Try.func52, Try.ntmps52
      go_wp2
      go_ret2
      exact ⟨_, rfl, Kd.R_nil _ _ _ _ _, Below.refl _ _⟩
    | false =>
      have hbad : a < 0 ∨ n < 0 ∨ (b.length : Int) < a ∨ (b.length : Int) - a < n := Classical.byContradiction fun q => hz (by unfold mayV; rw [if_neg (by decide), if_neg q])
      have he : mayV false b.length a n = 1 := by unfold mayV; rw [if_neg (by decide), if_pos hbad]
      rw [he]
      clear hh hr hC hz hread he
      by_cases k1 : a < 0
      · clear hbad
        go_enter Try.func52, Try.ntmps52
        go_wp2
        go_ret2
        exact ⟨_, rfl, Kd.R_nil _ _ _ _ _, Below.refl _ _⟩
      · by_cases k2 : n < 0
        · clear hbad
          go_enter Try.func52, Try.ntmps52
          go_wp2
          go_ret2
          exact ⟨_, rfl, Kd.R_nil _ _ _ _ _, Below.refl _ _⟩
        · by_cases k3 : (b.length : Int) < a
          · clear hbad
            go_enter Try.func52, Try.ntmps52
            go_wp2
            go_ret2
            exact ⟨_, rfl, Kd.R_nil _ _ _ _ _, Below.refl _ _⟩
          · have k4 : (b.length : Int) - a < n := by omega
            clear hbad
            go_enter Try.func52, Try.ntmps52
            go_wp2
            go_ret2
            exact ⟨_, rfl, Kd.R_nil _ _ _ _ _, Below.refl _ _⟩
set_option maxHeartbeats 4000000 in
set_option maxRecDepth 100000 in
theorem rf_new_no (n : Int) (w : World) (h : n < 0 ∨ 4096 < n) :
    Calls Try.prog 48 #[.int .i64 n] w fun e w' => e = .returned (.tuple #[.pointer none, .int .i64 1]) ∧ w' = w := by
  by_cases h1 : n < 0
  · clear h
    go_enter Try.func48, Try.ntmps48
    go_wp2
    go_ret2
    exact ⟨rfl, rfl⟩
  · have h2 : 4096 < n := by omega
    clear h
    go_enter Try.func48, Try.ntmps48
    go_wp2
    go_ret2
    exact ⟨rfl, rfl⟩
section
variable {P : Program} {ops : Array Oper} {rest : List Oper} {o : Oper} {a : Act} {Q : Exit → Act → World → Prop}
theorem gen_world {W : World} (h : ∀ W1, W1 = W → wpList P ops Q (o :: rest) a W1) : wpList P ops Q (o :: rest) a W := h W rfl
end
section
attribute [local go_sem] max2_int min2_int max_two min_two
set_option maxHeartbeats 8000000 in
set_option maxRecDepth 100000 in
theorem rf_write_ok (B : Nat) (base : Nat) (v : Value) (b : List Int) (skip torn : Int) (wr : Int) (a : Nat) (A : Option Addr) (m c : Nat) (xs : List Int) (w : World) (h : Rf w base B v b skip torn false wr) (hl : b.length ≤ 4096)
    (hsk : -1 ≤ skip ∧ skip ≤ 9223372036854775807) (hs0 : skip ≠ 0) (hwr : 0 ≤ wr ∧ wr ≤ 4611686018427387904) (hA : ∀ W', KeepBut w W' B none → Kd.C (Kd.int .u8) W' A m xs) (hmc : m ≤ c) (ham : a + m ≤ b.length) :
    Calls Try.prog 49 #[.pointer (some ⟨B, 0, none⟩), .int .i64 a, .slice A m c] w fun e w' => ∃ v', e = .returned (.int .i64 0) ∧ Rf w' base B v' (wrB b a xs) (if skip - 1 < -1 then -1 else skip - 1) torn false (wr + 1) ∧ (∀ j, v'.ownBlock = some j → w.heap.size ≤ j) ∧ KeepBut w w' B none ∧ Below base w w' := by
  have hxl : xs.length = m := (hA w (KeepBut.refl _ _ _)).1
  have HNE := Aside0.mk h.ne
  obtain ⟨A0, cap, rfl, hlc, hC⟩ := Kd.R_reads h.2.2
  obtain ⟨hb, hh, hr⟩ := h
  have hu := Try.underlying82
  have g0 := (blk_cell hh 0).trans rfl
  have g1 := (blk_cell hh 1).trans rfl
  have g3 := (blk_cell hh 3).trans rfl
  have g4 := (blk_cell hh 4).trans rfl
  have f1 := blk_frozen hh 1
  have f4 := blk_frozen hh 4
  have HH := Aside0.mk hh
  have HR := Aside0.mk hr
  have HA := Aside0.mk hA
  have HX := Aside0.mk hxl
  have HB := Aside0.mk hb
  have HLC := Aside0.mk hlc
  have MARK := Aside0.mk hb
  have hsk0 : (skip == 0) = false := by rw [beq_eq_false_iff_ne]; exact hs0
  obtain ⟨s', hs'⟩ : ∃ s', (if skip - 1 < -1 then -1 else skip - 1) = s' := ⟨_, rfl⟩
  rw [hs']
  obtain ⟨i0, hi0, _, hsz, _⟩ := info_parts fl_info
  obtain ⟨k1, r1, _⟩ := print_take_int (P := Try.prog) (k := .u8) 36 5 Try.underlying36 hi0 hsz A0 cap b (a : Int) (by omega) (by omega) hlc
  obtain ⟨k2, _, _⟩ := print_take_int (P := Try.prog) (k := .u8) 36 5 Try.underlying36 hi0 hsz A c xs (m : Int) (by omega) (by omega) (by omega)
  obtain ⟨A5, k3, r3, _⟩ := print_cut_int (P := Try.prog) (k := .u8) 36 5 Try.underlying36 hi0 hsz A0 cap b ((a : Int) + (m : Int)) (by omega) (by omega) hlc
  rw [Int.toNat_natCast, show (b.take a).length = a by rw [List.length_take]; omega] at k1 r1
  rw [Int.toNat_natCast, show (xs.take m).length = m by rw [List.length_take]; omega, hxl] at k2
  rw [show ((a : Int) + (m : Int)).toNat = a + m by omega, show (b.drop (a + m)).length = b.length - (a + m) by rw [List.length_drop]] at k3 r3
  have K1 := Aside0.mk k1
  have K2 := Aside0.mk k2
  have K3 := Aside0.mk k3
  have R1 := Aside0.mk r1
  have R3 := Aside0.mk r3
  clear hh hr hA hxl hb hC hlc k1 k2 k3 r1 r3 hi0 hsz
  go_enter Try.func49, Try.ntmps49
  go_wp2_with (first
    | ((with_reducible refine gate_dst (N := 68) rfl ?_); (clear MARK; refine gen_world ?_; intro W1 hW1; have hblk1 : W1.heap[B]? = some (.cells #[.slice A0 b.length cap, .int .i64 s', .int .i64 torn, .bool false, .int .i64 (wr + 1)] 82 (0, 0)) := (by rw [hW1]; have q := HH.out; simp [World.setCell, Array.getElem?_modify, q]); have hk1 : KeepBut w W1 B none := (by rw [hW1]; exact fl_keep_set (keep_set1 _ _ _ _)); have hR1 : Kd.R (Kd.int .u8) 5 W1 base (fun _ => True) (.slice A0 b.length cap) b := (by rw [hW1]; exact fl_set (fl_set HR.out HNE.out _ _) HNE.out _ _); have hb1 : Below base w W1 := (by rw [hW1]; exact fl_below_set (fl_below_set (Below.refl _ _) HB.out) HB.out); have HC1 : Aside0 (Kd.C (Kd.int .u8) W1 A0 b.length b) := ⟨(by obtain ⟨A', c', e, _, q⟩ := Kd.R_reads hR1; cases e; exact q)⟩; have HX1 := Aside0.mk (HA.out W1 hk1); have c0 : (W1.alloc (.cells #[] 5)).cell? ⟨B, 0, none⟩ = some (.slice A0 b.length cap) := ((World.cell?_alloc_lt _ _ _ (blk_lt hblk1)).trans ((blk_cell hblk1 0).trans rfl)); have HBLK1 := Aside0.mk hblk1; have HK1 := Aside0.mk hk1; have HBB1 := Aside0.mk hb1; clear hW1 hblk1 hk1 hR1 hb1 g0 g1 g3 g4 f1 f4 hs'))
    | ((with_reducible refine gate_dst (N := 74) rfl ?_); refine x_slice rfl 36 5 Try.underlying36 (.tmp 72) none (some (.tmp 73)) none rfl _ _ _ _ rfl rfl rfl rfl (.slice A0 a cap) K1.out ?_; simp only [Act.put, List.setIfInBounds_toArray, List.set_cons_zero, List.set_cons_succ])
    | ((with_reducible refine gate_dst (N := 75) rfl ?_); (refine x_append .u8 W1.heap.size rfl (.tmp 68) (.tmp 74) 36 5 1 rfl Try.underlying36 fl_info (by decide) (.slice (some ⟨W1.heap.size, 0, none⟩) 0 0) [] (b.take a) A0 a cap rfl rfl (fl_empty W1 5) (Kd.C_below (Kd.C_of_reads (d := (0 : Int)) (h1 := fun _ => rfl) (R1.out W1 (Kd.reads_of_C HC1.out))) ((Below.refl _ W1).alloc (Nat.le_refl _) _)) ((Below.refl _ W1).alloc (Nat.le_refl _) _) (by simp) (by simp; omega) ?_); intro v2 W2 ho2 hb2 hg2 hn2; rw [List.nil_append] at ho2; have HO2 := Aside0.mk ho2; have HB2 := Aside0.mk hb2; clear ho2 hb2 hg2 hn2 c0)
    | ((with_reducible refine gate_dst (N := 79) rfl ?_); refine x_slice rfl 36 5 Try.underlying36 (.tmp 77) none (some (.tmp 78)) none rfl _ _ _ _ rfl rfl rfl rfl (.slice A m c) K2.out ?_; simp only [Act.put, List.setIfInBounds_toArray, List.set_cons_zero, List.set_cons_succ])
    | ((with_reducible refine gate_dst (N := 80) rfl ?_); (refine x_append .u8 W1.heap.size rfl (.tmp 76) (.tmp 79) 36 5 1 rfl Try.underlying36 fl_info (by decide) v2 (b.take a) xs A m c rfl rfl HO2.out (Kd.C_below HX1.out HB2.out) HB2.out HB2.out.size (by rw [List.length_take]; omega) ?_); intro v3 W3 ho3 hb3 hg3 hn3; have c3 := (blk_cell (blk_below HBLK1.out hb3) 0).trans rfl; have HO3 := Aside0.mk ho3; have HB3 := Aside0.mk hb3; clear ho3 hb3 hg3 hn3)
    | ((with_reducible refine gate_dst (N := 89) rfl ?_); refine x_slice rfl 36 5 Try.underlying36 (.tmp 85) (some (.tmp 88)) none none rfl _ _ _ _ rfl rfl rfl rfl (.slice A5 (b.length - (a + m)) (cap - (a + m))) K3.out ?_; simp only [Act.put, List.setIfInBounds_toArray, List.set_cons_zero, List.set_cons_succ])
    | ((with_reducible refine gate_dst (N := 90) rfl ?_); (refine x_append .u8 W1.heap.size rfl (.tmp 81) (.tmp 89) 36 5 1 rfl Try.underlying36 fl_info (by decide) v3 (b.take a ++ xs) (b.drop (a + m)) A5 (b.length - (a + m)) (cap - (a + m)) rfl rfl HO3.out (Kd.C_below (Kd.C_of_reads (d := (0 : Int)) (h1 := fun _ => rfl) (R3.out W1 (Kd.reads_of_C HC1.out))) HB3.out) HB3.out HB3.out.size (by rw [List.length_append, List.length_take, HX.out]; omega) ?_); intro v4 W4 ho4 hb4 hg4 hn4; obtain ⟨A6, c6, rfl⟩ := Kd.R_slice ho4; have hB4 := blk_below HBLK1.out hb4; have d0 := (blk_cell hB4 0).trans rfl; have d3 := (blk_cell hB4 3).trans rfl; have e0 := blk_frozen hB4 0; have HBLK4 := Aside0.mk hB4; have HO4 := Aside0.mk ho4; have HB4 := Aside0.mk hb4; clear ho4 hb4 hg4 hn4 hB4 c3))
  go_ret
  have hlt : base ≤ W1.heap.size := Nat.le_trans HB.out (Nat.le_of_lt (blk_lt HBLK1.out))
  have hne4 : some B ≠ (Value.slice A6 ((b.take a ++ xs) ++ b.drop (a + m)).length c6).ownBlock := by
    obtain ⟨inner, ho⟩ := Kd.R_own HO4.out
    exact own_ne ho HBLK4.out (by decide)
  have hw4 : wrB b a xs = (b.take a ++ xs) ++ b.drop (a + m) := by unfold wrB; rw [HX.out, List.append_assoc]
  have hkk : KeepBut w W4 B none := ⟨Nat.le_trans HK1.out.1 HB4.out.size, fun i hi h1 h2 => (HB4.out.block i (Nat.lt_of_lt_of_le hi HK1.out.1)).trans (HK1.out.2 i hi h1 h2)⟩
  have hfin : Rf (W4.setCell ⟨B, 0, none⟩ (.slice A6 ((b.take a ++ xs) ++ b.drop (a + m)).length c6)) base B (.slice A6 ((b.take a ++ xs) ++ b.drop (a + m)).length c6) (wrB b a xs) s' torn false (wr + 1) :=
    ⟨HB.out, by have q := HBLK4.out; simp [World.setCell, Array.getElem?_modify, q], by rw [hw4]; exact fl_set (Kd.R_lower HO4.out hlt) hne4 _ _⟩
  have hbl : Below base w (W4.setCell ⟨B, 0, none⟩ (.slice A6 ((b.take a ++ xs) ++ b.drop (a + m)).length c6)) := fl_below_set (HBB1.out.trans (HB4.out.mono hlt)) HB.out
  have hkf := fl_keep_set (j := 0) (u := .slice A6 ((b.take a ++ xs) ++ b.drop (a + m)).length c6) hkk
  have hel : ((b.take a ++ xs) ++ b.drop (a + m)).length = a + (xs.length + (b.length - (a + m))) := by
    rw [List.length_append, List.length_append, List.length_take, List.length_drop]; omega
  have hfresh : ∀ j, (Value.slice A6 ((b.take a ++ xs) ++ b.drop (a + m)).length c6).ownBlock = some j → w.heap.size ≤ j := by
    obtain ⟨inner, ho⟩ := Kd.R_own HO4.out
    exact fun j hj => Nat.le_trans HK1.out.1 (own_base ho j hj)
  rw [hel] at hfin hbl hkf hfresh
  exact ⟨_, rfl, hfin, hfresh, hkf, hbl⟩
set_option maxHeartbeats 8000000 in
set_option maxRecDepth 100000 in
theorem rf_write_torn (B : Nat) (base : Nat) (v : Value) (b : List Int) (torn : Int) (wr : Int) (a : Nat) (A : Option Addr) (m c k : Nat) (xs : List Int) (w : World) (h : Rf w base B v b 0 torn false wr) (hl : b.length ≤ 4096)
    (hkm : (k : Int) = if torn < (m : Int) then torn else (m : Int)) (htn : 0 ≤ torn ∧ torn ≤ 9223372036854775807) (hwr : 0 ≤ wr ∧ wr ≤ 4611686018427387904) (hA : ∀ W', KeepBut w W' B none → Kd.C (Kd.int .u8) W' A m xs) (hmc : m ≤ c) (ham : a + m ≤ b.length) :
    Calls Try.prog 49 #[.pointer (some ⟨B, 0, none⟩), .int .i64 a, .slice A m c] w fun e w' => ∃ v', e = .returned (.int .i64 5) ∧ Rf w' base B v' (wrB b a (xs.take k)) (-1) torn true (wr + 1) ∧ (∀ j, v'.ownBlock = some j → w.heap.size ≤ j) ∧ KeepBut w w' B none ∧ Below base w w' := by
  have hxl : xs.length = m := (hA w (KeepBut.refl _ _ _)).1
  have HNE := Aside0.mk h.ne
  obtain ⟨A0, cap, rfl, hlc, hC⟩ := Kd.R_reads h.2.2
  obtain ⟨hb, hh, hr⟩ := h
  have hu := Try.underlying82
  have g0 := (blk_cell hh 0).trans rfl
  have g1 := (blk_cell hh 1).trans rfl
  have g3 := (blk_cell hh 3).trans rfl
  have g4 := (blk_cell hh 4).trans rfl
  have f1 := blk_frozen hh 1
  have f4 := blk_frozen hh 4
  have HH := Aside0.mk hh
  have HR := Aside0.mk hr
  have HA := Aside0.mk hA
  have HX := Aside0.mk hxl
  have HB := Aside0.mk hb
  have HLC := Aside0.mk hlc
  have MARK := Aside0.mk hb
  have hkm' : k ≤ m := by split at hkm <;> omega
  have hmin : (if torn < (m : Int) then torn else (m : Int)) = (k : Int) := hkm.symm
  have g2 := (blk_cell hh 2).trans rfl
  have f3 := blk_frozen hh 3
  obtain ⟨i0, hi0, _, hsz, _⟩ := info_parts fl_info
  obtain ⟨k1, r1, _⟩ := print_take_int (P := Try.prog) (k := .u8) 36 5 Try.underlying36 hi0 hsz A0 cap b (a : Int) (by omega) (by omega) hlc
  obtain ⟨k2, r2, _⟩ := print_take_int (P := Try.prog) (k := .u8) 36 5 Try.underlying36 hi0 hsz A c xs (k : Int) (by omega) (by omega) (by omega)
  obtain ⟨A5, k3, r3, _⟩ := print_cut_int (P := Try.prog) (k := .u8) 36 5 Try.underlying36 hi0 hsz A0 cap b ((a : Int) + (k : Int)) (by omega) (by omega) hlc
  rw [Int.toNat_natCast, show (b.take a).length = a by rw [List.length_take]; omega] at k1 r1
  rw [Int.toNat_natCast, show (xs.take k).length = k by rw [List.length_take]; omega, hxl] at k2 r2
  rw [show ((a : Int) + (k : Int)).toNat = a + k by omega, show (b.drop (a + k)).length = b.length - (a + k) by rw [List.length_drop]] at k3 r3
  have K1 := Aside0.mk k1
  have K2 := Aside0.mk k2
  have K3 := Aside0.mk k3
  have R1 := Aside0.mk r1
  have R2 := Aside0.mk r2
  have HKM := Aside0.mk hkm'
  have hxk : (xs.take k).length = k := by rw [List.length_take]; omega
  have HXK := Aside0.mk hxk
  have R3 := Aside0.mk r3
  clear hh hr hA hxl hb hC hlc k1 k2 k3 r1 r2 r3 hi0 hsz hkm hxk
  go_enter Try.func49, Try.ntmps49
  go_wp2_with (first
    | ((with_reducible refine gate_dst (N := 68) rfl ?_); (clear MARK; refine gen_world ?_; intro W1 hW1; have hblk1 : W1.heap[B]? = some (.cells #[.slice A0 b.length cap, .int .i64 (-1), .int .i64 torn, .bool true, .int .i64 (wr + 1)] 82 (0, 0)) := (by rw [hW1]; have q := HH.out; simp [World.setCell, Array.getElem?_modify, q]); have hk1 : KeepBut w W1 B none := (by rw [hW1]; exact fl_keep_set (fl_keep_set (keep_set1 _ _ _ _))); have hR1 : Kd.R (Kd.int .u8) 5 W1 base (fun _ => True) (.slice A0 b.length cap) b := (by rw [hW1]; exact fl_set (fl_set (fl_set HR.out HNE.out _ _) HNE.out _ _) HNE.out _ _); have hb1 : Below base w W1 := (by rw [hW1]; exact fl_below_set (fl_below_set (fl_below_set (Below.refl _ _) HB.out) HB.out) HB.out); have HC1 : Aside0 (Kd.C (Kd.int .u8) W1 A0 b.length b) := ⟨(by obtain ⟨A', c', e, _, q⟩ := Kd.R_reads hR1; cases e; exact q)⟩; have HX1 := Aside0.mk (HA.out W1 hk1); have c0 : (W1.alloc (.cells #[] 5)).cell? ⟨B, 0, none⟩ = some (.slice A0 b.length cap) := ((World.cell?_alloc_lt _ _ _ (blk_lt hblk1)).trans ((blk_cell hblk1 0).trans rfl)); have HBLK1 := Aside0.mk hblk1; have HK1 := Aside0.mk hk1; have HBB1 := Aside0.mk hb1; clear hW1 hblk1 hk1 hR1 hb1 g0 g1 g2 g3 g4 f1 f3 f4 hmin))
    | ((with_reducible refine gate_dst (N := 74) rfl ?_); refine x_slice rfl 36 5 Try.underlying36 (.tmp 72) none (some (.tmp 73)) none rfl _ _ _ _ rfl rfl rfl rfl (.slice A0 a cap) K1.out ?_; simp only [Act.put, List.setIfInBounds_toArray, List.set_cons_zero, List.set_cons_succ])
    | ((with_reducible refine gate_dst (N := 75) rfl ?_); (refine x_append .u8 W1.heap.size rfl (.tmp 68) (.tmp 74) 36 5 1 rfl Try.underlying36 fl_info (by decide) (.slice (some ⟨W1.heap.size, 0, none⟩) 0 0) [] (b.take a) A0 a cap rfl rfl (fl_empty W1 5) (Kd.C_below (Kd.C_of_reads (d := (0 : Int)) (h1 := fun _ => rfl) (R1.out W1 (Kd.reads_of_C HC1.out))) ((Below.refl _ W1).alloc (Nat.le_refl _) _)) ((Below.refl _ W1).alloc (Nat.le_refl _) _) (by simp) (by simp; omega) ?_); intro v2 W2 ho2 hb2 hg2 hn2; rw [List.nil_append] at ho2; have HO2 := Aside0.mk ho2; have HB2 := Aside0.mk hb2; clear ho2 hb2 hg2 hn2 c0)
    | ((with_reducible refine gate_dst (N := 79) rfl ?_); refine x_slice rfl 36 5 Try.underlying36 (.tmp 77) none (some (.tmp 78)) none rfl _ _ _ _ rfl rfl rfl rfl (.slice A k c) K2.out ?_; simp only [Act.put, List.setIfInBounds_toArray, List.set_cons_zero, List.set_cons_succ])
    | ((with_reducible refine gate_dst (N := 80) rfl ?_); (refine x_append .u8 W1.heap.size rfl (.tmp 76) (.tmp 79) 36 5 1 rfl Try.underlying36 fl_info (by decide) v2 (b.take a) (xs.take k) A k c rfl rfl HO2.out (Kd.C_below (Kd.C_of_reads (d := (0 : Int)) (h1 := fun _ => rfl) (R2.out W1 (Kd.reads_of_C HX1.out))) HB2.out) HB2.out HB2.out.size (by rw [List.length_take]; omega) ?_); intro v3 W3 ho3 hb3 hg3 hn3; have c3 := (blk_cell (blk_below HBLK1.out hb3) 0).trans rfl; have HO3 := Aside0.mk ho3; have HB3 := Aside0.mk hb3; clear ho3 hb3 hg3 hn3)
    | ((with_reducible refine gate_dst (N := 89) rfl ?_); refine x_slice rfl 36 5 Try.underlying36 (.tmp 85) (some (.tmp 88)) none none rfl _ _ _ _ rfl rfl rfl rfl (.slice A5 (b.length - (a + k)) (cap - (a + k))) K3.out ?_; simp only [Act.put, List.setIfInBounds_toArray, List.set_cons_zero, List.set_cons_succ])
    | ((with_reducible refine gate_dst (N := 90) rfl ?_); (refine x_append .u8 W1.heap.size rfl (.tmp 81) (.tmp 89) 36 5 1 rfl Try.underlying36 fl_info (by decide) v3 (b.take a ++ xs.take k) (b.drop (a + k)) A5 (b.length - (a + k)) (cap - (a + k)) rfl rfl HO3.out (Kd.C_below (Kd.C_of_reads (d := (0 : Int)) (h1 := fun _ => rfl) (R3.out W1 (Kd.reads_of_C HC1.out))) HB3.out) HB3.out HB3.out.size (by rw [List.length_append, List.length_take, HXK.out]; have := HKM.out; omega) ?_); intro v4 W4 ho4 hb4 hg4 hn4; obtain ⟨A6, c6, rfl⟩ := Kd.R_slice ho4; have hB4 := blk_below HBLK1.out hb4; have d0 := (blk_cell hB4 0).trans rfl; have d3 := (blk_cell hB4 3).trans rfl; have e0 := blk_frozen hB4 0; have HBLK4 := Aside0.mk hB4; have HO4 := Aside0.mk ho4; have HB4 := Aside0.mk hb4; clear ho4 hb4 hg4 hn4 hB4 c3))
  go_ret
  have hlt : base ≤ W1.heap.size := Nat.le_trans HB.out (Nat.le_of_lt (blk_lt HBLK1.out))
  have hne4 : some B ≠ (Value.slice A6 ((b.take a ++ xs.take k) ++ b.drop (a + k)).length c6).ownBlock := by
    obtain ⟨inner, ho⟩ := Kd.R_own HO4.out
    exact own_ne ho HBLK4.out (by decide)
  have hw4 : wrB b a (xs.take k) = (b.take a ++ xs.take k) ++ b.drop (a + k) := by unfold wrB; rw [HXK.out, List.append_assoc]
  have hkk : KeepBut w W4 B none := ⟨Nat.le_trans HK1.out.1 HB4.out.size, fun i hi h1 h2 => (HB4.out.block i (Nat.lt_of_lt_of_le hi HK1.out.1)).trans (HK1.out.2 i hi h1 h2)⟩
  have hfin : Rf (W4.setCell ⟨B, 0, none⟩ (.slice A6 ((b.take a ++ xs.take k) ++ b.drop (a + k)).length c6)) base B (.slice A6 ((b.take a ++ xs.take k) ++ b.drop (a + k)).length c6) (wrB b a (xs.take k)) (-1) torn true (wr + 1) :=
    ⟨HB.out, by have q := HBLK4.out; simp [World.setCell, Array.getElem?_modify, q], by rw [hw4]; exact fl_set (Kd.R_lower HO4.out hlt) hne4 _ _⟩
  have hbl : Below base w (W4.setCell ⟨B, 0, none⟩ (.slice A6 ((b.take a ++ xs.take k) ++ b.drop (a + k)).length c6)) := fl_below_set (HBB1.out.trans (HB4.out.mono hlt)) HB.out
  have hkf := fl_keep_set (j := 0) (u := .slice A6 ((b.take a ++ xs.take k) ++ b.drop (a + k)).length c6) hkk
  have hel : ((b.take a ++ xs.take k) ++ b.drop (a + k)).length = a + (min k xs.length + (b.length - (a + k))) := by
    rw [List.length_append, List.length_append, List.length_take, List.length_take, List.length_drop]; omega
  have hfresh : ∀ j, (Value.slice A6 ((b.take a ++ xs.take k) ++ b.drop (a + k)).length c6).ownBlock = some j → w.heap.size ≤ j := by
    obtain ⟨inner, ho⟩ := Kd.R_own HO4.out
    exact fun j hj => Nat.le_trans HK1.out.1 (own_base ho j hj)
  rw [hel] at hfin hbl hkf hfresh
  exact ⟨_, rfl, hfin, hfresh, hkf, hbl⟩
end
set_option maxHeartbeats 4000000 in
set_option maxRecDepth 100000 in
theorem rf_write_no (B : Nat) (base : Nat) (v : Value) (b : List Int) (skip torn : Int) (dead : Bool) (wr : Int) (at_ : Int) (A : Option Addr) (m c : Nat) (w : World) (h : Rf w base B v b skip torn dead wr) (hl : b.length ≤ 4096) (hm : m ≤ 140737488351232) (hz : mayV dead b.length at_ m ≠ 0) :
    Calls Try.prog 49 #[.pointer (some ⟨B, 0, none⟩), .int .i64 at_, .slice A m c] w fun e w' => e = .returned (.int .i64 (mayV dead b.length at_ m)) ∧ w' = w := by
  obtain ⟨A0, cap, rfl, hlc, hC⟩ := Kd.R_reads h.2.2
  obtain ⟨hb, hh, hr⟩ := h
  have hu := Try.underlying82
  have h3 := (blk_cell hh 3).trans rfl
  have h0 := (blk_cell hh 0).trans rfl
  cases dead with
  | true =>
    have he : mayV true b.length at_ m = 5 := by unfold mayV; rfl
    rw [he]
    clear hh hr hC hz he hlc
    go_enter Try.func49, Try.ntmps49
    go_wp2
    go_ret
    exact ⟨rfl, rfl⟩
  | false =>
    have hbad : at_ < 0 ∨ (m : Int) < 0 ∨ (b.length : Int) < at_ ∨ (b.length : Int) - at_ < m := Classical.byContradiction fun q => hz (by unfold mayV; rw [if_neg (by decide), if_neg q])
    have he : mayV false b.length at_ m = 1 := by unfold mayV; rw [if_neg (by decide), if_pos hbad]
    rw [he]
    clear hh hr hC hz he hlc
    by_cases k1 : at_ < 0
    · clear hbad
      go_enter Try.func49, Try.ntmps49
      go_wp2
      go_ret
      exact ⟨rfl, rfl⟩
    · by_cases k3 : (b.length : Int) < at_
      · clear hbad
        go_enter Try.func49, Try.ntmps49
        go_wp2
        go_ret
        exact ⟨rfl, rfl⟩
      · have k4 : (b.length : Int) - at_ < m := by omega
        clear hbad
        go_enter Try.func49, Try.ntmps49
        go_wp2
        go_ret
        exact ⟨rfl, rfl⟩
theorem keep_kept {w w' : World} {B : Nat} {row : Option Nat} (h : KeepBut w w' B row) : Kept w w' (fun k => k = B ∨ some k = row) := ⟨h.1, fun i hi hn => h.2 i hi (fun e => hn (.inl e)) (fun e => hn (.inr e))⟩
theorem Rf.keep {w w' : World} {base B B' : Nat} {v : Value} {b : List Int} {skip torn n : Int} {dead : Bool} {row : Option Nat} (h : Rf w base B v b skip torn dead n) (k : KeepBut w w' B' row) (hB : B ≠ B') (hBo : some B ≠ row) (hoB : some B' ≠ v.ownBlock) (hoo : ∀ j, v.ownBlock = some j → row ≠ some j) : Rf w' base B v b skip torn dead n := by
  refine ⟨h.1, blk_kept h.2.1 (keep_kept k) (fun e => ?_), Kd.R_mono (Kd.R_kept (Kd.R_tight rfl h.2.2) (keep_kept k) (fun j hj e => ?_)) (fun _ _ => trivial)⟩
  · rcases e with rfl | e
    · exact hB rfl
    · exact hBo e
  · rcases e with rfl | e
    · exact hoB hj
    · exact hoo j hj.symm e.symm
theorem Fl.keep {w w' : World} {base B B' : Nat} {v : Value} {b : List Int} {is : Bool} {sk m n : Int} {dead : Bool} {row : Option Nat} (h : Fl w base B v b is sk m dead n) (k : KeepBut w w' B' row) (hB : B ≠ B') (hBo : some B ≠ row) (hoB : some B' ≠ v.ownBlock) (hoo : ∀ j, v.ownBlock = some j → row ≠ some j) : Fl w' base B v b is sk m dead n := by
  refine ⟨h.1, blk_kept h.2.1 (keep_kept k) (fun e => ?_), Kd.R_mono (Kd.R_kept (Kd.R_tight rfl h.2.2) (keep_kept k) (fun j hj e => ?_)) (fun _ _ => trivial)⟩
  · rcases e with rfl | e
    · exact hB rfl
    · exact hBo e
  · rcases e with rfl | e
    · exact hoB hj
    · exact hoo j hj.symm e.symm
/-- how the reference's marks stand to the program's -/
def Marks (is : Bool) (sk m skip torn : Int) : Prop := (is = true → skip = sk ∧ torn = m ∧ 0 ≤ sk ∧ 0 ≤ m ∧ sk ≤ 9223372036854775807 ∧ m ≤ 9223372036854775807) ∧ (is = false → skip = -1)
/-- a flash of the program and one of the reference, sharing nothing -/
def Pf (w : World) (b1 B1 : Nat) (v1 : Value) (is : Bool) (sk m : Int) (b2 B2 : Nat) (v2 : Value) (skip torn : Int) (b : List Int) (dead : Bool) (n : Int) : Prop :=
  Fl w b1 B1 v1 b is sk m dead n ∧ Rf w b2 B2 v2 b skip torn dead n ∧ B1 ≠ B2 ∧ (∀ k, v2.ownBlock = some k → v1.ownBlock ≠ some k) ∧ Marks is sk m skip torn
theorem flrf_ne1 {w : World} {b1 B1 b2 B2 : Nat} {v1 v2 : Value} {is : Bool} {sk m skip torn n n' : Int} {b b' : List Int} {dead dead' : Bool} (h : Fl w b1 B1 v1 b is sk m dead n) (k : Rf w b2 B2 v2 b' skip torn dead' n') : some B1 ≠ v2.ownBlock := by
  obtain ⟨inner, ho⟩ := Kd.R_own k.2.2
  exact own_ne ho h.2.1 (by decide)
theorem flrf_ne2 {w : World} {b1 B1 b2 B2 : Nat} {v1 v2 : Value} {is : Bool} {sk m skip torn n n' : Int} {b b' : List Int} {dead dead' : Bool} (h : Fl w b1 B1 v1 b is sk m dead n) (k : Rf w b2 B2 v2 b' skip torn dead' n') : some B2 ≠ v1.ownBlock := by
  obtain ⟨inner, ho⟩ := Kd.R_own h.2.2
  exact own_ne ho k.2.1 (by decide)
/-- both, whatever their marks -/
def Pr (w : World) (b1 B1 : Nat) (v1 : Value) (is : Bool) (sk m : Int) (b : List Int) (dead : Bool) (n : Int) (b2 B2 : Nat) (v2 : Value) (skip torn : Int) (b' : List Int) (dead' : Bool) (n' : Int) : Prop :=
  Fl w b1 B1 v1 b is sk m dead n ∧ Rf w b2 B2 v2 b' skip torn dead' n' ∧ B1 ≠ B2 ∧ (∀ k, v2.ownBlock = some k → v1.ownBlock ≠ some k)
theorem pr_fst {w : World} {b1 B1 b2 B2 : Nat} {v1 v2 : Value} {is : Bool} {sk m skip torn n n' : Int} {b b' : List Int} {dead dead' : Bool} (h : Pr w b1 B1 v1 is sk m b dead n b2 B2 v2 skip torn b' dead' n') : Fl w b1 B1 v1 b is sk m dead n := h.1
theorem pr_snd {w : World} {b1 B1 b2 B2 : Nat} {v1 v2 : Value} {is : Bool} {sk m skip torn n n' : Int} {b b' : List Int} {dead dead' : Bool} (h : Pr w b1 B1 v1 is sk m b dead n b2 B2 v2 skip torn b' dead' n') : Rf w b2 B2 v2 b' skip torn dead' n' := h.2.1
theorem Pr.below {w w' : World} {b1 B1 b2 B2 : Nat} {v1 v2 : Value} {is : Bool} {sk m skip torn n n' : Int} {b b' : List Int} {dead dead' : Bool} (h : Pr w b1 B1 v1 is sk m b dead n b2 B2 v2 skip torn b' dead' n') (hb : Below w.heap.size w w') : Pr w' b1 B1 v1 is sk m b dead n b2 B2 v2 skip torn b' dead' n' := ⟨h.1.below hb, h.2.1.below hb, h.2.2⟩
/-- an act on the program's: its row stays where it is -/
theorem Pr.step1 {w w' : World} {b1 B1 b2 B2 : Nat} {v1 v2 : Value} {is is' : Bool} {sk m sk' m' skip torn n n' n1 : Int} {b b' b1' : List Int} {dead dead' dead1 : Bool} {row : Option Nat} (h : Pr w b1 B1 v1 is sk m b dead n b2 B2 v2 skip torn b' dead' n') (h1 : Fl w' b1 B1 v1 b1' is' sk' m' dead1 n1) (k : KeepBut w w' B1 row) (hrow : row = none ∨ row = v1.ownBlock) : Pr w' b1 B1 v1 is' sk' m' b1' dead1 n1 b2 B2 v2 skip torn b' dead' n' := by
  obtain ⟨a, c, hB, ho⟩ := h
  have e1 := flrf_ne1 a c
  have e2 := flrf_ne2 a c
  refine ⟨h1, c.keep k hB.symm ?_ e1 ?_, hB, ho⟩
  · rcases hrow with rfl | rfl
    · simp
    · exact e2
  · intro j hj
    rcases hrow with rfl | rfl
    · simp
    · exact ho j hj
/-- an act on the reference's: its row may be a new one -/
theorem Pr.step2 {w w' : World} {b1 B1 b2 B2 : Nat} {v1 v2 v2' : Value} {is : Bool} {sk m skip torn skip' torn' n n' n2 : Int} {b b' b2' : List Int} {dead dead' dead2 : Bool} (h : Pr w b1 B1 v1 is sk m b dead n b2 B2 v2 skip torn b' dead' n') (h2 : Rf w' b2 B2 v2' b2' skip' torn' dead2 n2) (k : KeepBut w w' B2 none) (hnew : v2'.ownBlock = v2.ownBlock ∨ ∀ j, v2'.ownBlock = some j → w.heap.size ≤ j) : Pr w' b1 B1 v1 is sk m b dead n b2 B2 v2' skip' torn' b2' dead2 n2 := by
  obtain ⟨a, c, hB, ho⟩ := h
  have e1 := flrf_ne1 a c
  have e2 := flrf_ne2 a c
  refine ⟨a.keep k hB (by simp) e2 (fun j _ => by simp), h2, hB, fun j hj => ?_⟩
  rcases hnew with q | q
  · exact ho j (by rw [← q]; exact hj)
  · intro e
    obtain ⟨inner, hw⟩ := Kd.R_own a.2.2
    have := own_lt hw j e
    have := q j hj
    omega
end Go.Proofs.Ytaoiamifofkklaa.Obj
