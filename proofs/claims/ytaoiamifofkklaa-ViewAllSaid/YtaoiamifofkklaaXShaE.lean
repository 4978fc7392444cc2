/- Contracts of Go functions that the claims of this seat share. -/
import Derived.Test.YtaoiamifofkklaaProg
import Derived.Below
import Derived.Deep.Draws
import Derived.Deep.AppendLies
import Derived.Maps.AppendAt
import Derived.OwnWalk
import Derived.Laws.BytesArg
import Derived.Laws.MakeOwn
import Derived.Laws.OwnMore
import Derived.Deep.OwnRows
import Derived.Tactics
import Derived.Lib.ConvBytes
import Derived.Laws.Slices
import Derived.WalkKit
import Derived.KernelRfl
import Derived.RowKit3
import Derived.Deep.LoopGhost
import Derived.Deep.QuietTactic
import Derived.BigQuiet
import Derived.WideLaws
import Derived.Deep.DeepCutAuto
import Derived.Deep.CutBlock
import Derived.Deep.RegionHeld3
import Derived.Laws.Rows
import Derived.Lib.AppendStr
import Derived.ArgAppend
import Derived.Laws.IdiomCopy
import Derived.OrdersHeld
import Derived.Laws.BitsLemmas
import Derived.RowKit
import Derived.Lib.OthersKept
import Derived.Test.YtaoiamifofkklaaWWords
import Derived.Test.YtaoiamifofkklaaWLast
import Derived.Test.YtaoiamifofkklaaWTab
import Derived.Test.YtaoiamifofkklaaWFour
import Derived.Test.YtaoiamifofkklaaWQPut
import Derived.Test.YtaoiamifofkklaaWApart
import Derived.Test.YtaoiamifofkklaaWArr
import Derived.Test.YtaoiamifofkklaaWZeros
import Derived.Test.YtaoiamifofkklaaWFoot
import Derived.Test.YtaoiamifofkklaaWKept
import Derived.Test.YtaoiamifofkklaaWShare
import Derived.Test.YtaoiamifofkklaaWN
import Derived.Test.YtaoiamifofkklaaWFootNe
import Derived.Test.YtaoiamifofkklaaWAt
import Derived.Test.YtaoiamifofkklaaWEqStruct
import Derived.Test.YtaoiamifofkklaaWRepsOne
import Derived.Test.YtaoiamifofkklaaWInv
import Derived.Test.YtaoiamifofkklaaWInvWords
import Derived.Test.YtaoiamifofkklaaWGuard
import Derived.Test.YtaoiamifofkklaaWNEv
import Derived.Test.YtaoiamifofkklaaWMore
import Derived.Test.YtaoiamifofkklaaX0Mem
import Derived.Test.YtaoiamifofkklaaX1Pure
import Derived.Test.YtaoiamifofkklaaXShaD
import Derived.Test.YtaoiamifofkklaaXShaC
namespace Go.Proofs.Ytaoiamifofkklaa.Obj
open Go.RowKit Go.Proofs.YtaoiamifofkklaaW.PrintWords Go.Proofs.YtaoiamifofkklaaW.PrintLast Go.Proofs.YtaoiamifofkklaaW.PrintMore
set_option linter.unusedVariables false
set_option linter.unusedSimpArgs false
/-- a row of the call's own, its capacity perhaps clipped: read, never written -/
def Rc (W : World) (base : Nat) (v : Value) (xs : List Int) : Prop := ∃ A c c', v = .slice A xs.length c ∧ xs.length ≤ c ∧ Kd.R (Kd.int .u8) 5 W base (fun _ => True) (.slice A xs.length c') xs
theorem Rc.of {W : World} {base : Nat} {v : Value} {xs : List Int} (h : Kd.R (Kd.int .u8) 5 W base (fun _ => True) v xs) : Rc W base v xs := by
  obtain ⟨A, c, rfl, hl, _⟩ := Kd.R_reads h
  exact ⟨A, c, c, rfl, hl, h⟩
theorem Rc.reads {W : World} {base : Nat} {v : Value} {xs : List Int} (h : Rc W base v xs) : ∃ A c, v = .slice A xs.length c ∧ xs.length ≤ c ∧ Kd.C (Kd.int .u8) W A xs.length xs := by
  obtain ⟨A, c, c', rfl, hl, h⟩ := h
  obtain ⟨A', c2, he, _, hC⟩ := Kd.R_reads h
  injection he with he _ _
  subst he
  exact ⟨A, c, rfl, hl, hC⟩
theorem Rc.below {w w' : World} {base : Nat} {v : Value} {xs : List Int} (h : Rc w base v xs) (hb : Below w.heap.size w w') : Rc w' base v xs := by
  obtain ⟨A, c, c', rfl, hl, h⟩ := h
  exact ⟨A, c, c', rfl, hl, Kd.R_below h hb⟩
theorem Rc.alloc {w : World} {base : Nat} {v : Value} {xs : List Int} (h : Rc w base v xs) (o : Obj) : Rc (w.alloc o) base v xs := by
  obtain ⟨A, c, c', rfl, hl, h⟩ := h
  exact ⟨A, c, c', rfl, hl, Kd.R_alloc h o⟩
theorem Rc.lower {w : World} {base base' : Nat} {v : Value} {xs : List Int} (h : Rc w base v xs) (hb : base' ≤ base) : Rc w base' v xs := by
  obtain ⟨A, c, c', rfl, hl, h⟩ := h
  exact ⟨A, c, c', rfl, hl, Kd.R_lower h hb⟩
theorem Rc.ne {w : World} {base D : Nat} {v : Value} {xs : List Int} {cells : Array Value} (h : Rc w base v xs) (hh : w.heap[D]? = some (.cells cells 141 (0, 0))) : some D ≠ v.ownBlock := by
  obtain ⟨A, c, c', rfl, hl, h⟩ := h
  obtain ⟨inner, ho⟩ := Kd.R_own h
  have q := own_ne ho hh (by decide)
  cases A <;> exact q
theorem Rc.set {w : World} {base D : Nat} {v : Value} {xs : List Int} (h : Rc w base v xs) (hn : some D ≠ v.ownBlock) (j : Nat) (u : Value) : Rc (w.setCell ⟨D, j, none⟩ u) base v xs := by
  obtain ⟨A, c, c', rfl, hl, h⟩ := h
  have hn' : some D ≠ (Value.slice A xs.length c').ownBlock := by cases A <;> exact hn
  exact ⟨A, c, c', rfl, hl, Kd.R_mono (Kd.R_far (Kd.R_far1 h rfl hn') (fun k hk => hk.2) u) (fun _ _ => trivial)⟩
/-- a digest that goes on -/
def Dg (W : World) (base D : Nat) (v : Value) (s : W8) (left : List Int) (n : Nat) : Prop :=
  base ≤ D ∧ W.heap[D]? = some (.cells #[.int .u32 (s.a.toNat : Int), .int .u32 (s.b.toNat : Int), .int .u32 (s.c.toNat : Int), .int .u32 (s.d.toNat : Int), .int .u32 (s.e.toNat : Int), .int .u32 (s.f.toNat : Int), .int .u32 (s.g.toNat : Int), .int .u32 (s.h.toNat : Int), v, .int .i64 (n : Int), .bool true] 141 (0, 0)) ∧ Rc W base v left
theorem Dg.below {w w' : World} {base D : Nat} {v : Value} {s : W8} {left : List Int} {n : Nat} (h : Dg w base D v s left n) (hb : Below w.heap.size w w') : Dg w' base D v s left n := ⟨h.1, blk_below h.2.1 hb, h.2.2.below hb⟩
theorem Dg.ne {w : World} {base D : Nat} {v : Value} {s : W8} {left : List Int} {n : Nat} (h : Dg w base D v s left n) : some D ≠ v.ownBlock := h.2.2.ne h.2.1
theorem sh_none (D : Nat) (w : World) (h : w.cell? ⟨D, 10, none⟩ = some (.bool true)) : Calls Try.prog 101 #[.pointer (some ⟨D, 0, none⟩)] w fun e w' => e = .returned (.bool false) ∧ w' = w := by
  go_enter Try.func101, Try.ntmps101
  go_wp2
  go_ret
  exact ⟨rfl, rfl⟩
set_option maxHeartbeats 4000000 in
set_option maxRecDepth 100000 in
theorem sh_new (w : World) : Calls Try.prog 89 #[] w fun e w' => ∃ D, e = .returned (.pointer (some ⟨D, 0, none⟩)) ∧ Dg w' w.heap.size D (.slice none 0 0) IV [] 0 ∧ Below w.heap.size w w' := by
  go_enter Try.func89, Try.ntmps89
  go_wp2_with (go_at_call 100; (with_reducible refine (sh_begin _).mono ?_); rintro e w1 ⟨rfl, hb⟩; have HB := Aside0.mk hb; clear hb; obtain ⟨s, hs⟩ : ∃ s, IV = s := ⟨_, rfl⟩; have HS := Aside0.mk hs; rw [hs]; obtain ⟨a, b, c, d, e, f, g, h⟩ := s; clear hs; unfold w8A)
  go_ret
  refine ⟨w1.heap.size, rfl, ?_, HB.out.alloc HB.out.size _⟩
  rw [HS.out]
  exact ⟨HB.out.size, heap_alloc_new _ _, Rc.of (Kd.R_nil _ _ _ _ _)⟩
def foldN (n : Nat) (l : List Int) (s : W8) : W8 := (List.range n).foldl (fun s i => mixF KT ((l.drop (64 * i)).take 64) s) s
theorem foldN_zero (l : List Int) (s : W8) : foldN 0 l s = s := rfl
theorem foldN_succ (i : Nat) (l : List Int) (s : W8) : foldN (i + 1) l s = mixF KT ((l.drop (64 * i)).take 64) (foldN i l s) := by
  unfold foldN
  rw [List.range_succ, List.foldl_append, List.foldl_cons, List.foldl_nil]
theorem Dg.set9 {w : World} {base D : Nat} {v : Value} {s : W8} {left : List Int} {n : Nat} (h : Dg w base D v s left n) (x : Nat) : Dg (w.setCell ⟨D, 9, none⟩ (.int .i64 (x : Int))) base D v s left x :=
  ⟨h.1, by have q := h.2.1; simp [World.setCell, Array.getElem?_modify, q], h.2.2.set h.ne _ _⟩
theorem dg_keep_set {w w1 : World} {B j : Nat} {u : Value} (h : KeepBut w w1 B none) : KeepBut w (w1.setCell ⟨B, j, none⟩ u) B none := h.set_ j u
theorem dg_keep_below {w w1 w2 : World} {B : Nat} (h : KeepBut w w1 B none) (hb : Below w1.heap.size w1 w2) : KeepBut w w2 B none :=
  ⟨Nat.le_trans h.1 hb.size, fun i hi h1 h2 => (hb.block i (Nat.lt_of_lt_of_le hi h.1)).trans (h.2 i hi h1 h2)⟩
theorem dg_cell {w : World} {base D : Nat} {v : Value} {s : W8} {left : List Int} {n : Nat} (h : Dg w base D v s left n) (j : Nat) : w.cell? ⟨D, j, none⟩ = (#[.int .u32 (s.a.toNat : Int), .int .u32 (s.b.toNat : Int), .int .u32 (s.c.toNat : Int), .int .u32 (s.d.toNat : Int), .int .u32 (s.e.toNat : Int), .int .u32 (s.f.toNat : Int), .int .u32 (s.g.toNat : Int), .int .u32 (s.h.toNat : Int), v, .int .i64 (n : Int), .bool true] : Array Value)[j]? := cell_of_row _ _ _ _ _ _ h.2.1
theorem dg_free {w : World} {base D : Nat} {v : Value} {s : W8} {left : List Int} {n : Nat} (h : Dg w base D v s left n) (j : Nat) : w.frozen? ⟨D, j, none⟩ = false := frozen_of_row _ _ _ _ _ h.2.1
theorem arr_at8 (W : World) (ad : Addr) (q c : Nat) (h : 64 ≤ q) : (Instr.arrayAt 166 (.slice (some ad) q c)).run Try.prog W = .ok (.pointer (some ad)) W := by
  unfold Instr.arrayAt
  simp [Sem.run_bind, run_underlying Try.underlying166, Result.andThen, Nat.not_lt.2 h]
theorem arr_atS (W : World) (ad : Addr) (q c : Nat) (h : 8 ≤ q) : (Instr.arrayAt 138 (.slice (some ad) q c)).run Try.prog W = .ok (.pointer (some ad)) W := by
  unfold Instr.arrayAt
  simp [Sem.run_bind, run_underlying Try.underlying138, Result.andThen, Nat.not_lt.2 h]
theorem dg_info : (Try.prog.info? 5).map (fun i => (i.zero, i.size, i.bytes)) = some (some (.int .u8 0), 1, 1) := by kernel_rfl
theorem dg_bset {base D : Nat} {a w : World} (h : Below base a w) (hD : base ≤ D) (j : Nat) (u : Value) : Below base a (w.setCell ⟨D, j, none⟩ u) := h.setCell (p := ⟨D, j, none⟩) hD u
theorem dg_tset {W : World} {T D : Nat} {o : Obj} (h : W.heap[T]? = some o) (hn : T ≠ D) (j : Nat) (u : Value) : (W.setCell ⟨D, j, none⟩ u).heap[T]? = some o := by
  rw [heap_setCell_other _ _ _ _ (by exact hn)]
  exact h
theorem dg_left {w : World} {base D : Nat} {v v' : Value} {s : W8} {left left' : List Int} {n : Nat} (h : Dg w base D v s left n) (hr : Rc w base v' left') : Dg (w.setCell ⟨D, 8, none⟩ v') base D v' s left' n := by
  have q := heap_setCell_same _ D 8 _ _ v' h.2.1
  simp only [List.setIfInBounds_toArray, List.set_cons_zero, List.set_cons_succ] at q
  exact ⟨h.1, q, hr.set (hr.ne h.2.1) _ _⟩
theorem dg_set8 {w : World} {base D : Nat} {v : Value} {s : W8} {left : List Int} {n : Nat} (h : Dg w base D v s left n) (a1 b1 c1 d1 e1 f1 g1 h1 : BitVec 32) : Dg ((((((((w.setCell ⟨D, 0, none⟩ (.int .u32 (a1.toNat : Int))).setCell ⟨D, 1, none⟩ (.int .u32 (b1.toNat : Int))).setCell ⟨D, 2, none⟩ (.int .u32 (c1.toNat : Int))).setCell ⟨D, 3, none⟩ (.int .u32 (d1.toNat : Int))).setCell ⟨D, 4, none⟩ (.int .u32 (e1.toNat : Int))).setCell ⟨D, 5, none⟩ (.int .u32 (f1.toNat : Int))).setCell ⟨D, 6, none⟩ (.int .u32 (g1.toNat : Int))).setCell ⟨D, 7, none⟩ (.int .u32 (h1.toNat : Int))) base D v ⟨a1, b1, c1, d1, e1, f1, g1, h1⟩ left n := by
  have q0 := heap_setCell_same _ D 0 _ _ (.int .u32 (a1.toNat : Int)) h.2.1
  have q1 := heap_setCell_same _ D 1 _ _ (.int .u32 (b1.toNat : Int)) q0
  have q2 := heap_setCell_same _ D 2 _ _ (.int .u32 (c1.toNat : Int)) q1
  have q3 := heap_setCell_same _ D 3 _ _ (.int .u32 (d1.toNat : Int)) q2
  have q4 := heap_setCell_same _ D 4 _ _ (.int .u32 (e1.toNat : Int)) q3
  have q5 := heap_setCell_same _ D 5 _ _ (.int .u32 (f1.toNat : Int)) q4
  have q6 := heap_setCell_same _ D 6 _ _ (.int .u32 (g1.toNat : Int)) q5
  have q7 := heap_setCell_same _ D 7 _ _ (.int .u32 (h1.toNat : Int)) q6
  simp only [List.setIfInBounds_toArray, List.set_cons_zero, List.set_cons_succ] at q7
  refine ⟨h.1, q7, ?_⟩
  have hne := h.ne
  have hr := h.2.2
  have st : ∀ (W : World), Rc W base v left → ∀ (j : Nat) (u : Value), Rc (W.setCell ⟨D, j, none⟩ u) base v left := fun W hR j u => hR.set hne j u
  exact st _ (st _ (st _ (st _ (st _ (st _ (st _ (st _ hr _ _) _ _) _ _) _ _) _ _) _ _) _ _) _ _
theorem dg_slice (A : Option Addr) (c n : Nat) (hn : 64 ≤ n) (hc : n ≤ c) : ∃ A', (∀ W : World, (Instr.slice 36 (.slice A n c) (some (.int .i64 64)) none none).run Try.prog W = .ok (.slice A' (n - 64) (c - 64)) W) ∧ ∀ (W : World) (l : List Int), Kd.C (Kd.int .u8) W A n l → Kd.C (Kd.int .u8) W A' (n - 64) (l.drop 64) := by
  obtain ⟨i0, hi0, _, hsz, _⟩ := info_parts dg_info
  obtain ⟨A', h1, h2⟩ := print_cut_of (P := Try.prog) (Value.int .u8) (0 : Int) 36 5 .i64 Try.underlying36 hi0 hsz A n c 64 hn
  refine ⟨A', h1, fun W l h => ?_⟩
  exact Kd.C_of_reads (d := (0 : Int)) (h1 := fun _ => rfl) (h2 W l hc (Kd.reads_of_C h))
theorem dg_below {base : Nat} {w w1 w2 : World} (h : Below base w w1) (hd : base ≤ w.heap.size) (hb : Below w1.heap.size w1 w2) : Below base w w2 := below_then h (Nat.le_trans hd h.size) hb
theorem arr_below {w1 W2 : World} {o : Obj} (hg : (w1.alloc o).grownBy W2 (some w1.heap.size)) : Below w1.heap.size w1 W2 :=
  ((Below.refl _ w1).alloc (Nat.le_refl _) o).grown hg (by simp) (fun k hk => by injection hk with hk; omega)
set_option maxHeartbeats 8000000 in
set_option maxRecDepth 100000 in
theorem sh_write0 {AL : Option Addr} {cL : Nat} (D base : Nat) (s : W8) (n m c : Nat) (A : Option Addr) (xs : List Int) (w : World) (h : Dg w base D (.slice AL 0 cL) s [] n) (hA : ∀ W', KeepBut w W' D none → Kd.C (Kd.int .u8) W' A m xs) (hx : IsB xs) (hmc : m ≤ c) (hn : n + m ≤ 1048576) :
    Calls Try.prog 90 #[.pointer (some ⟨D, 0, none⟩), .slice A m c] w fun e w' => ∃ v', e = .returned (.int .i64 0) ∧ Dg w' base D v' (foldN (m / 64) xs s) (xs.drop (64 * (m / 64))) (n + m) ∧ (∀ j, v'.ownBlock = some j → w.heap.size ≤ j) ∧ KeepBut w w' D none ∧ Below base w w' := by
  have hu := Try.underlying141
  have g10 := (blk_cell h.2.1 10).trans rfl
  have g9 := (blk_cell h.2.1 9).trans rfl
  have f9 := blk_frozen h.2.1 9
  have H := Aside0.mk h
  have HA := Aside0.mk hA
  have HX := Aside0.mk hx
  have HM := Aside0.mk hmc
  have HNN := Aside0.mk hn
  have HD := Aside0.mk h.1
  have HBS := Aside0.mk (Nat.le_trans h.1 (Nat.le_of_lt (blk_lt h.2.1)))
  have I1 : Aside0 ((Try.prog.info? 142).map (·.size) = some 64) := ⟨by kernel_rfl⟩
  have hnm : ¬ (1048576 - (n : Int) < (m : Int)) := by omega
  clear h hA hx hmc
  go_enter Try.func90, Try.ntmps90
  go_wp2_with (first
    | (go_at_call 101; (with_reducible refine (sh_none D _ g10).mono ?_); rintro e w ⟨rfl, rfl⟩)
    | (go_at_call 102; (with_reducible refine (sh_table _).mono ?_); rintro e w1 ⟨rfl, hb⟩; have hd1 := H.out.set9 (n + m); rw [Int.natCast_add] at hd1; have HD1 := Aside0.mk (hd1.below hb); have HK1 := Aside0.mk (dg_keep_below (dg_keep_set (KeepBut.refl w D none)) hb); have HB1 := Aside0.mk (dg_below ((Below.refl base w).setCell (p := ⟨D, 9, none⟩) HD.out _) HBS.out hb); have r8 := (dg_cell HD1.out 8).trans rfl; obtain ⟨R, hR⟩ : ∃ R, row64 KT = R := ⟨_, rfl⟩; have HR := Aside0.mk hR; have HS := Aside0.mk (show R.size = 64 by rw [← hR, row_size KT (by decide)]); have HO := Aside0.mk (show R.all (·.oneCell') = true by rw [← hR]; exact row_one _); rw [hR]; clear hR hd1 hb g10 g9 f9 hnm)
    | ((with_reducible refine gate_store (t := 142) (p := 5) (v := .tmp 28) rfl ?_); refine x_arrStore rfl 142 (.tmp 5) (.tmp 28) rfl w1.heap.size (row64 []) R rfl rfl (heap_alloc_new _ _) (by rw [HS.out]; exact I1.out) (by rw [HS.out, row_size [] (by simp)]) HO.out ?_; intro W2 hh2 hg2; have GH := Aside0.mk hh2; have HB2 := Aside0.mk (arr_below hg2); clear hh2 hg2; have HD2 := Aside0.mk (HD1.out.below HB2.out); clear r8; have r8 := (dg_cell HD2.out 8).trans rfl))
  obtain ⟨TB, hTB⟩ : ∃ B, w1.heap.size = B := ⟨_, rfl⟩
  have HTB : Aside0 (W2.heap[TB]? = some (.cells (row64 KT) 142 (0, 0))) := ⟨by have g := GH.out; rw [← HR.out, hTB] at g; exact g⟩
  have HDT : Aside0 (D < TB) := ⟨by rw [← hTB]; exact blk_lt HD1.out.2.1⟩
  have HK2 := Aside0.mk (dg_keep_below HK1.out HB2.out)
  have HB3 := Aside0.mk (dg_below HB1.out HBS.out HB2.out)
  rw [hTB]
  clear HB1 HK1 HD1 HB2 GH HR HS HO hTB r8
  go_loopw [1] (fun v1 wr => ∃ (i : Nat) (A' : Option Addr) (c' : Nat), 64 * i ≤ m ∧ v1 = .slice A' (m - 64 * i) c' ∧ m - 64 * i ≤ c' ∧ Aside0 (∀ W', KeepBut w W' D none → Kd.C (Kd.int .u8) W' A' (m - 64 * i) (xs.drop (64 * i))) ∧ Aside0 (Dg wr base D (.slice AL 0 cL) (foldN i xs s) [] (n + m)) ∧ Aside0 (KeepBut w wr D none) ∧ Aside0 (Below base w wr) ∧ Aside0 (wr.heap[TB]? = some (.cells (row64 KT) 142 (0, 0)))) (fun v1 _ => match v1 with | .slice _ len _ => len | _ => 0)
  case atStart => exact ⟨0, A, c, by omega, rfl, HM.out, ⟨fun W' hk => HA.out W' hk⟩, HD2, HK2, HB3, HTB⟩
  case round =>
    clear HD2 HK2 HB3 HTB
    obtain ⟨i, A', c', him, rfl, hqc, KC, KD, KK, KB, KT_⟩ := hrel
    obtain ⟨q, hq⟩ : ∃ q, m - 64 * i = q := ⟨_, rfl⟩
    rw [hq] at KC hqc
    rw [hq]
    by_cases hlt : 64 ≤ q
    · obtain ⟨ad, rfl, hc⟩ := (Kd.reads_of_C (enc := Value.int .u8) (d := (0 : Int)) (h1 := fun _ => rfl) (KC.out wr KK.out)).2.2 (by omega)
      obtain ⟨ys, hys⟩ : ∃ ys, (xs.drop (64 * i)).take 64 = ys := ⟨_, rfl⟩
      have hyl : ys.length = 64 := by have := (KC.out wr KK.out).1; rw [← hys, List.length_take]; omega
      have hyb : IsB ys := by rw [← hys]; exact (HX.out.drop _).take _
      have hyc : ∀ j, j < 64 → wr.cell? (ad.add j) = some (.int .u8 (ys.getD j 0)) := fun j hj => by
        have := hc j (by omega)
        rw [this, ← hys]
        simp [List.getD_eq_getElem?_getD, List.getElem?_take, hj]
      have CB : Aside0 (∀ j, j < 64 → ∀ W, Below wr.heap.size wr W → W.cell? (ad.add j) = some (.int .u8 (ys.getD j 0))) := ⟨fun j hj W hb => fl_low (hyc j hj) hb⟩
      have CK : Aside0 (∀ j, j < 64 → ∀ W, Below wr.heap.size wr W → W.cell? ((⟨TB, 0, none⟩ : Addr).add j) = some (.int .u32 ((KT.getD j 0).toNat : Int))) := ⟨fun j hj W hb => by rw [Addr.add_mid, Nat.zero_add]; exact fl_low (row_at KT_.out (by simpa [KT] using hj)) hb⟩
      have HYL := Aside0.mk hyl
      have HYB := Aside0.mk hyb
      have hfold : foldN (i + 1) xs s = mixF KT ys (foldN i xs s) := by rw [foldN_succ, hys]
      obtain ⟨s0, hs0⟩ : ∃ s0, foldN i xs s = s0 := ⟨_, rfl⟩
      rw [hs0] at hfold KD
      have HF := Aside0.mk hfold
      obtain ⟨a, b, cc, d, e, f, g, h⟩ := s0
      have d0 := (dg_cell KD.out 0).trans rfl
      have d1 := (dg_cell KD.out 1).trans rfl
      have d2 := (dg_cell KD.out 2).trans rfl
      have d3 := (dg_cell KD.out 3).trans rfl
      have d4 := (dg_cell KD.out 4).trans rfl
      have d5 := (dg_cell KD.out 5).trans rfl
      have d6 := (dg_cell KD.out 6).trans rfl
      have d7 := (dg_cell KD.out 7).trans rfl
      obtain ⟨A2, hcut, hC2⟩ := dg_slice (some ad) c' q hlt hqc
      have HCUT := Aside0.mk hcut
      have HC2 := Aside0.mk hC2
      have HQ := Aside0.mk hq
      clear hcut hC2 hc hys hyl hyb hyc hfold hs0 hq
      have har := fun W : World => arr_at8 W ad q c' hlt
      go_wp2
      go_region_with (go_at_call 103; (with_reducible refine (sh_mix a b cc d e f g h ⟨TB, 0, none⟩ ad KT ys _ HYB.out HYL.out (fun j hj => CB.out j hj _ (by repeat (first | exact Below.refl _ _ | apply below_drew | apply pw_below_drewN))) (fun j hj => CK.out j hj _ (by repeat (first | exact Below.refl _ _ | apply below_drew | apply pw_below_drewN)))).mono ?_); rintro ee w5 ⟨rfl, hb⟩; have HB5 : Aside0 (Below wr.heap.size wr w5) := ⟨Below.trans (by repeat (first | exact Below.refl wr.heap.size wr | apply below_drew | apply pw_below_drewN)) hb⟩; have KD5 := Aside0.mk (KD.out.below HB5.out); clear hb d0 d1 d2 d3 d4 d5 d6 d7; have d0 := (dg_cell KD5.out 0).trans rfl; have d1 := (dg_cell KD5.out 1).trans rfl; have d2 := (dg_cell KD5.out 2).trans rfl; have d3 := (dg_cell KD5.out 3).trans rfl; have d4 := (dg_cell KD5.out 4).trans rfl; have d5 := (dg_cell KD5.out 5).trans rfl; have d6 := (dg_cell KD5.out 6).trans rfl; have d7 := (dg_cell KD5.out 7).trans rfl; have f0 := dg_free KD5.out 0; have f1 := dg_free KD5.out 1; have f2 := dg_free KD5.out 2; have f3 := dg_free KD5.out 3; have f4 := dg_free KD5.out 4; have f5 := dg_free KD5.out 5; have f6 := dg_free KD5.out 6; have f7 := dg_free KD5.out 7; have hf := HF.out; obtain ⟨s1, hs1⟩ : ∃ s1, mixF KT ys ⟨a, b, cc, d, e, f, g, h⟩ = s1 := ⟨_, rfl⟩; rw [hs1] at hf; rw [hs1]; have HF1 := Aside0.mk hf; clear hf hs1; obtain ⟨a1, b1, c1, d1', e1, f1', g1, h1⟩ := s1; unfold w8A)
      all_goals
        go_wp2_with ((with_reducible refine gate_dst (N := 95) rfl ?_); refine x_slice rfl 36 5 Try.underlying36 (.tmp 94) (some (.const (.int .i64 64))) none none rfl _ _ _ _ rfl rfl rfl rfl (.slice A2 (q - 64) (c' - 64)) HCUT.out ?_; simp only [Act.put, List.setIfInBounds_toArray, List.set_cons_zero, List.set_cons_succ])
        have hk5 := dg_keep_below KK.out HB5.out
        have hb5 := dg_below KB.out HBS.out HB5.out
        have hT5 := blk_below KT_.out HB5.out
        have hne : TB ≠ D := by have := HDT.out; omega
        go_roundw
        case rel =>
          refine ⟨i + 1, A2, c' - 64, by have := HQ.out; omega, by rw [show m - 64 * (i + 1) = q - 64 by have := HQ.out; omega], by have := HQ.out; omega, ⟨fun W' hk => ?_⟩, ⟨by rw [HF1.out]; exact dg_set8 KD5.out _ _ _ _ _ _ _ _⟩, ⟨by repeat (first | (with_reducible exact hk5) | (with_reducible refine dg_keep_set ?_))⟩, ⟨by repeat (first | (with_reducible exact hb5) | (with_reducible refine dg_bset ?_ HD.out _ _))⟩, ⟨by repeat (first | (with_reducible exact hT5) | (with_reducible refine dg_tset ?_ hne _ _))⟩⟩
          have q2 := HC2.out W' _ (KC.out W' hk)
          rw [List.drop_drop, show 64 * i + 64 = 64 * (i + 1) by omega] at q2
          rw [show m - 64 * (i + 1) = q - 64 by have := HQ.out; omega]
          exact q2
        case measure => simp; omega
    · have hi : i = m / 64 := by omega
      have r8 := (dg_cell KD.out 8).trans rfl
      have f8 := dg_free KD.out 8
      have HC3 := KC.out wr KK.out
      obtain ⟨zs, hzs⟩ : ∃ zs, xs.drop (64 * i) = zs := ⟨_, rfl⟩
      rw [hzs] at HC3
      have hzl := HC3.1
      have hqm : q ≤ m := by omega
      have HQM := Aside0.mk hqm
      have HC3 := Aside0.mk HC3
      have HZL := Aside0.mk hzl
      have HI := Aside0.mk hi
      have HZS := Aside0.mk hzs
      clear hi hzs hzl hqm
      go_wp2_with ((with_reducible refine gate_dst (N := 108) rfl ?_); (refine x_append .u8 wr.heap.size rfl (.const (.slice none 0 0)) (.tmp 107) 36 5 1 rfl Try.underlying36 dg_info (by decide) (.slice none 0 0) [] zs A' q c' rfl rfl (Kd.R_nil _ _ _ _ _) HC3.out (Below.refl _ wr) (Nat.le_refl _) (by simp; have h1 := HQM.out; have h2 := HNN.out; omega) ?_); intro v2 W3 ho2 hb2 hg2 hn2; rw [List.nil_append] at ho2; have KD4 := Aside0.mk (KD.out.below hb2); obtain ⟨A6, c6, rfl⟩ := Kd.R_slice ho2; have HO2 := Aside0.mk ho2; have HB4 := Aside0.mk hb2; clear ho2 hb2 hg2 hn2 r8 f8; have r8 := (dg_cell KD4.out 8).trans rfl; have f8 := dg_free KD4.out 8)
      go_ret
      have hbase := Nat.le_trans HBS.out KB.out.size
      refine ⟨.slice A6 zs.length c6, rfl, ?_, ?_, dg_keep_set (dg_keep_below KK.out HB4.out), dg_bset (dg_below KB.out HBS.out HB4.out) HD.out _ _⟩
      · have hd := dg_left KD4.out (Rc.of (Kd.R_lower HO2.out hbase))
        rw [← HI.out, HZS.out]
        exact hd
      · obtain ⟨inner, ho⟩ := Kd.R_own HO2.out
        exact fun j hj => Nat.le_trans KK.out.1 (own_base ho j hj)
end Go.Proofs.Ytaoiamifofkklaa.Obj
