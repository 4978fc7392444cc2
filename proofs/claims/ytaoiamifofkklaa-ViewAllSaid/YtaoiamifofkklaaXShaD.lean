/- Contracts of Go functions that the claims of this seat share. -/
import Derived.Test.YtaoiamifofkklaaProg
import Derived.Below
import Derived.Deep.Draws
import Derived.Deep.AppendLies
import Derived.Maps.AppendAt
import Derived.OwnWalk
import Derived.Laws.BytesArg
import Derived.Laws.MakeOwn
import Derived.Laws.OwnMore
import Derived.Deep.OwnRows
import Derived.Tactics
import Derived.Lib.ConvBytes
import Derived.Laws.Slices
import Derived.WalkKit
import Derived.KernelRfl
import Derived.RowKit3
import Derived.Deep.LoopGhost
import Derived.Deep.QuietTactic
import Derived.BigQuiet
import Derived.WideLaws
import Derived.Deep.DeepCutAuto
import Derived.Deep.CutBlock
import Derived.Deep.RegionHeld3
import Derived.Laws.Rows
import Derived.Lib.AppendStr
import Derived.ArgAppend
import Derived.Laws.IdiomCopy
import Derived.OrdersHeld
import Derived.Laws.BitsLemmas
import Derived.RowKit
import Derived.Lib.OthersKept
import Derived.Test.YtaoiamifofkklaaWWords
import Derived.Test.YtaoiamifofkklaaWLast
import Derived.Test.YtaoiamifofkklaaWTab
import Derived.Test.YtaoiamifofkklaaWFour
import Derived.Test.YtaoiamifofkklaaWQPut
import Derived.Test.YtaoiamifofkklaaWApart
import Derived.Test.YtaoiamifofkklaaWArr
import Derived.Test.YtaoiamifofkklaaWZeros
import Derived.Test.YtaoiamifofkklaaWFoot
import Derived.Test.YtaoiamifofkklaaWKept
import Derived.Test.YtaoiamifofkklaaWShare
import Derived.Test.YtaoiamifofkklaaWN
import Derived.Test.YtaoiamifofkklaaWFootNe
import Derived.Test.YtaoiamifofkklaaWAt
import Derived.Test.YtaoiamifofkklaaWEqStruct
import Derived.Test.YtaoiamifofkklaaWRepsOne
import Derived.Test.YtaoiamifofkklaaWInv
import Derived.Test.YtaoiamifofkklaaWInvWords
import Derived.Test.YtaoiamifofkklaaWGuard
import Derived.Test.YtaoiamifofkklaaWNEv
import Derived.Test.YtaoiamifofkklaaWMore
import Derived.Test.YtaoiamifofkklaaX0Mem
import Derived.Test.YtaoiamifofkklaaX1Pure
import Derived.Test.YtaoiamifofkklaaXShaC
import Derived.Deep.MidRow
namespace Go.Proofs.Ytaoiamifofkklaa.Obj
open Go.RowKit Go.Proofs.YtaoiamifofkklaaW.PrintWords Go.Proofs.YtaoiamifofkklaaW.PrintLast Go.Proofs.YtaoiamifofkklaaW.PrintMore
set_option linter.unusedVariables false
set_option linter.unusedSimpArgs false
def rb13.T13 : Bool × List (List Nat × List Nat) := (true, [([], []), ([], []), ([1], [1]), ([2], [2]), ([3], [3]), ([4], [4]), ([], []), ([6], [6]), ([7], [7]), ([8], [8]), ([5, 9], [5, 9]), ([], []), ([11], [11]), ([12], [12]), ([13], [13]), ([14, 5], [14]), ([10, 15], [10, 15]), ([], []), ([17], [17]), ([18], [18]), ([19], [19]), ([16, 20], [16, 20]), ([0, 0, 1, 2, 3, 4, 5, 6, 7, 8, 9, 10, 11, 12, 13, 14, 15, 16, 17, 18, 19, 20, 21], [0]), ([22, 21, 15, 0, 1, 2, 3, 4, 5, 6, 7, 8, 9, 10, 11, 12, 13, 14, 15, 16, 17, 18, 19, 20, 21], [21, 22])])
def rb13.B13 : List Nat := [0, 0, 2, 6, 14, 30, 0, 64, 192, 448, 1022, 0, 2048, 6144, 14336, 30782, 65534, 0, 131072, 393216, 917504, 2097150, 4194303, 8388607]
theorem rb13.tab13 : rtab .any (opsOf Try.f98 13) = rb13.T13 := by kernel_rfl
theorem rb13.bits13 : waitsOk rb13.T13.2 rb13.B13 = true := by kernel_rfl
def rb20.T20 : Bool × List (List Nat × List Nat) := (true, [([], []), ([0], [0]), ([1], [1]), ([], []), ([3], [3]), ([2, 4], [2, 4]), ([], []), ([], []), ([7], [7]), ([8], [8]), ([6, 9], [6, 9]), ([], []), ([11], [11]), ([], []), ([13], [13]), ([14], [14]), ([12, 15], [12, 15]), ([10, 16], [10, 16]), ([5, 17], [5, 17]), ([], []), ([19], [19]), ([20], [20]), ([18, 21], [18, 21]), ([], []), ([23], [23]), ([24], [24]), ([22, 25], [22, 25]), ([26, 4, 0, 1, 2, 3, 4, 5, 6, 7, 8, 9, 10, 11, 12, 13, 14, 15, 16, 17, 18, 19, 20, 21, 22, 23, 24, 25, 26], [26])])
def rb20.B20 : List Nat := [0, 1, 3, 0, 8, 31, 0, 0, 128, 384, 960, 0, 2048, 0, 8192, 24576, 63488, 131008, 262143, 0, 524288, 1572864, 4194303, 0, 8388608, 25165824, 67108863, 134217727]
theorem rb20.tab20 : rtab .any (opsOf Try.f98 20) = rb20.T20 := by kernel_rfl
theorem rb20.bits20 : waitsOk rb20.T20.2 rb20.B20 = true := by kernel_rfl
def rb21.T21 : Bool × List (List Nat × List Nat) := (true, [([], []), ([0], [0]), ([], []), ([], []), ([3], [3]), ([4], [4]), ([2, 5], [2, 5]), ([], []), ([], []), ([8], [8]), ([9], [9]), ([7, 10], [7, 10]), ([6, 11], [6, 11]), ([], []), ([13], [13]), ([14], [14]), ([], []), ([16], [16]), ([17], [17]), ([15, 18], [15, 18]), ([12, 19], [12, 19]), ([1, 20], [1, 20]), ([21, 1, 0, 1, 2, 3, 4, 5, 6, 7, 8, 9, 10, 11, 12, 13, 14, 15, 16, 17, 18, 19, 20, 21], [21])])
def rb21.B21 : List Nat := [0, 1, 0, 0, 8, 24, 60, 0, 0, 256, 768, 1920, 4092, 0, 8192, 24576, 0, 65536, 196608, 516096, 1048572, 2097151, 4194303]
theorem rb21.tab21 : rtab .any (opsOf Try.f98 21) = rb21.T21 := by kernel_rfl
theorem rb21.bits21 : waitsOk rb21.T21.2 rb21.B21 = true := by kernel_rfl
def rb22.T22 : Bool × List (List Nat × List Nat) := (true, [([], []), ([], []), ([0, 1], [0, 1]), ([], []), ([], []), ([4], [4]), ([5], [5]), ([], []), ([7], [7]), ([8], [8]), ([], []), ([10], [10]), ([11], [11]), ([], []), ([12, 13], [12, 13]), ([], []), ([], []), ([16], [16]), ([17], [17]), ([], []), ([19], [19]), ([20], [20]), ([2, 3, 6, 9, 14, 15, 18, 21], [2, 3, 6, 9, 14, 15, 18, 21]), ([22, 0, 1, 2, 3, 4, 5, 6, 7, 8, 9, 10, 11, 12, 13, 14, 15, 16, 17, 18, 19, 20, 21, 22], [4, 7, 10, 16, 19, 22])])
def rb22.B22 : List Nat := [0, 0, 3, 0, 0, 16, 48, 0, 128, 384, 0, 1024, 3072, 0, 15360, 0, 0, 65536, 196608, 0, 524288, 1572864, 4194303, 8388607]
theorem rb22.tab22 : rtab .any (opsOf Try.f98 22) = rb22.T22 := by kernel_rfl
theorem rb22.bits22 : waitsOk rb22.T22.2 rb22.B22 = true := by kernel_rfl
open Go.Proofs.Ytaoiamifofkklaa.PShaH
theorem rw_cell {W : World} {B : Nat} {L : List (BitVec 32)} (h : W.heap[B]? = some (.cells (row64 L) 142 (0, 0))) {j : Nat} (hj : j < L.length) : W.cell? ⟨B, j, none⟩ = some (.int .u32 ((L.getD j 0).toNat : Int)) := row_at h hj
theorem rw_next {W : World} {B : Nat} {L : List (BitVec 32)} (h : W.heap[B]? = some (.cells (row64 L) 142 (0, 0))) (hl : L.length < 64) : W.cell? ⟨B, L.length, none⟩ = some (.int .u32 0) ∧ W.frozen? ⟨B, L.length, none⟩ = false := by
  refine ⟨?_, frozen_of_row _ _ _ _ _ h⟩
  rw [cell_of_row _ _ _ _ _ _ h]
  unfold row64 wds
  rw [List.getElem?_toArray, List.getElem?_map, List.getElem?_append_right (Nat.le_refl _), Nat.sub_self, List.getElem?_replicate, if_pos (by omega)]
  rfl
theorem rw_put {W : World} {B : Nat} {L : List (BitVec 32)} (h : W.heap[B]? = some (.cells (row64 L) 142 (0, 0))) (hl : L.length < 64) (x : BitVec 32) : (W.setCell ⟨B, L.length, none⟩ (.int .u32 (x.toNat : Int))).heap[B]? = some (.cells (row64 (L ++ [x])) 142 (0, 0)) := by
  rw [heap_setCell_same _ _ _ _ _ _ h]
  congr 2
  unfold row64
  rw [List.setIfInBounds_toArray]
  congr 1
  unfold wds
  rw [← List.map_set]
  congr 1
  rw [List.set_append_right _ _ (Nat.le_refl _), Nat.sub_self, List.append_assoc]
  congr 1
  rw [List.length_append]
  have e : 64 - L.length = (64 - (L.length + 1)) + 1 := by omega
  rw [e, List.replicate_succ, List.set_cons_zero]
  rfl
/-- the two arrays of the reference's Block: the table's, the words so far -/
def Rb (w0 W : World) (BK BW : Nat) (L : List (BitVec 32)) : Prop := W.heap[BK]? = some (.cells (row64 KT) 142 (0, 0)) ∧ W.heap[BW]? = some (.cells (row64 L) 142 (0, 0)) ∧ BK ≠ BW ∧ w0.heap.size ≤ BW ∧ Below w0.heap.size w0 W
theorem Rb.below {w0 W W' : World} {BK BW : Nat} {L : List (BitVec 32)} (h : Rb w0 W BK BW L) (hb : Below W.heap.size W W') : Rb w0 W' BK BW L := ⟨blk_below h.1 hb, blk_below h.2.1 hb, h.2.2.1, h.2.2.2.1, below_step h.2.2.2.2 hb⟩
theorem rb_below {w0 W : World} {BK BW : Nat} {L : List (BitVec 32)} (h : Rb w0 W BK BW L) : Below w0.heap.size w0 W := h.2.2.2.2
theorem Rb.put {w0 W : World} {BK BW k : Nat} {xs : List Int} (h : Rb w0 W BK BW (schL xs k)) (hk : k < 64) (x : BitVec 32) : Rb w0 (W.setCell ⟨BW, k, none⟩ (.int .u32 (x.toNat : Int))) BK BW (schL xs k ++ [x]) := by
  have q := rw_put h.2.1 (by rw [schL_len]; exact hk) x
  rw [schL_len] at q
  exact ⟨by rw [heap_setCell_other _ _ _ _ (by exact h.2.2.1)]; exact h.1, q, h.2.2.1, h.2.2.2.1, h.2.2.2.2.setCell (p := ⟨BW, k, none⟩) h.2.2.2.1 _⟩
def w8I (s : W8) : List Int := [(s.a.toNat : Int), (s.b.toNat : Int), (s.c.toNat : Int), (s.d.toNat : Int), (s.e.toNat : Int), (s.f.toNat : Int), (s.g.toNat : Int), (s.h.toNat : Int)]
theorem r8_info : (Try.prog.info? 95).map (fun i => (i.zero, i.size, i.bytes)) = some (some (.int .u32 0), 1, 4) := by kernel_rfl
theorem r8_empty (W : World) (e : TypeId) : Kd.R (Kd.int .u32) e (W.alloc (.cells #[] e)) W.heap.size (fun _ => True) (.slice (some ⟨W.heap.size, 0, none⟩) 0 0) [] := by
  have h1 := own_lit W W.heap.size e .u32 [] (Nat.le_refl _) (by simp)
  exact Kd.R_of_own (enc := Value.int .u32) (h1 := fun _ => rfl) (ok := fun _ => True) h1 (fun _ _ => trivial)
theorem r8_cells {W : World} {base : Nat} {v : Value} {a b c d e f g h : BitVec 32} (hr : Kd.R (Kd.int .u32) 95 W base (fun _ => True) v (w8I ⟨a, b, c, d, e, f, g, h⟩)) :
    ∃ gb cap, v = .slice (some ⟨gb, 0, none⟩) 8 cap ∧ W.cell? ⟨gb, 0, none⟩ = some (.int .u32 (a.toNat : Int)) ∧ W.cell? ⟨gb, 1, none⟩ = some (.int .u32 (b.toNat : Int)) ∧ W.cell? ⟨gb, 2, none⟩ = some (.int .u32 (c.toNat : Int)) ∧ W.cell? ⟨gb, 3, none⟩ = some (.int .u32 (d.toNat : Int)) ∧ W.cell? ⟨gb, 4, none⟩ = some (.int .u32 (e.toNat : Int)) ∧ W.cell? ⟨gb, 5, none⟩ = some (.int .u32 (f.toNat : Int)) ∧ W.cell? ⟨gb, 6, none⟩ = some (.int .u32 (g.toNat : Int)) ∧ W.cell? ⟨gb, 7, none⟩ = some (.int .u32 (h.toNat : Int)) := by
  obtain ⟨gb, cap, rfl, _⟩ := Kd.R_form hr (by simp [w8I])
  obtain ⟨A, c', he, _, hC⟩ := Kd.R_reads hr
  injection he with he _ _
  subst he
  obtain ⟨ad, had, hc⟩ := (Kd.reads_of_C (enc := Value.int .u32) (d := (0 : Int)) (h1 := fun _ => rfl) hC).2.2 (by simp [w8I])
  injection had with had
  subst had
  refine ⟨gb, cap, rfl, ?_⟩
  have q : ∀ j, j < 8 → W.cell? ⟨gb, j, none⟩ = some (.int .u32 ((w8I ⟨a, b, c, d, e, f, g, h⟩).getD j 0)) := fun j hj => by
    have := hc j hj
    rwa [Addr.add_mid, Nat.zero_add] at this
  exact ⟨q 0 (by decide), q 1 (by decide), q 2 (by decide), q 3 (by decide), q 4 (by decide), q 5 (by decide), q 6 (by decide), q 7 (by decide)⟩
theorem sh_addW (x y : BitVec 32) : IntKind.u32.wrap ((x.toNat : Int) + (y.toNat : Int)) = ((x + y).toNat : Int) := by rw [IntKind.wrap_u32]; exact sh_add x y
theorem ch_eq (e f g : BitVec 32) : (e &&& f) ^^^ ((4294967295#32 ^^^ e) &&& g) = g ^^^ (e &&& (f ^^^ g)) := by
  apply BitVec.eq_of_getLsbD_eq
  intro i hi
  have h1 : (4294967295#32).getLsbD i = true := by
    rw [show (4294967295#32) = BitVec.allOnes 32 by decide, BitVec.getLsbD_allOnes]
    exact decide_eq_true hi
  simp only [BitVec.getLsbD_xor, BitVec.getLsbD_and, h1]
  cases e.getLsbD i <;> cases f.getLsbD i <;> cases g.getLsbD i <;> rfl
theorem maj_eq (a b c : BitVec 32) : (a &&& b) ^^^ (a &&& c) ^^^ (b &&& c) = (a &&& b) ||| (c &&& (a ||| b)) := by
  apply BitVec.eq_of_getLsbD_eq
  intro i hi
  simp only [BitVec.getLsbD_xor, BitVec.getLsbD_and, BitVec.getLsbD_or]
  cases a.getLsbD i <;> cases b.getLsbD i <;> cases c.getLsbD i <;> rfl
theorem r8_lit (W : World) (base : Nat) (hb : base ≤ W.heap.size) (r : W8) : Kd.R (Kd.int .u32) 95 (W.alloc (.cells #[.int .u32 (r.a.toNat : Int), .int .u32 (r.b.toNat : Int), .int .u32 (r.c.toNat : Int), .int .u32 (r.d.toNat : Int), .int .u32 (r.e.toNat : Int), .int .u32 (r.f.toNat : Int), .int .u32 (r.g.toNat : Int), .int .u32 (r.h.toNat : Int)] 95)) base (fun _ => True) (.slice (some ⟨W.heap.size, 0, none⟩) 8 8) (w8I r) := by
  have h1 := own_lit W base 95 .u32 (w8I r) hb (by simp [w8I])
  exact Kd.R_of_own (enc := Value.int .u32) (h1 := fun _ => rfl) (ok := fun _ => True) h1 (fun _ _ => trivial)
def cur (s r : W8) (i : Nat) : List Int := (w8I (addW s r)).take i ++ (w8I r).drop i
theorem cur_next (s r : W8) (i : Nat) (h : i < 8) : (cur s r i).set i (((w8I r).getD i 0 + (w8I s).getD i 0) % 4294967296) = cur s r (i + 1) := by
  match i, h with
  | 0, _ => (simp [cur, w8I, addW]; omega)
  | 1, _ => (simp [cur, w8I, addW]; omega)
  | 2, _ => (simp [cur, w8I, addW]; omega)
  | 3, _ => (simp [cur, w8I, addW]; omega)
  | 4, _ => (simp [cur, w8I, addW]; omega)
  | 5, _ => (simp [cur, w8I, addW]; omega)
  | 6, _ => (simp [cur, w8I, addW]; omega)
  | 7, _ => (simp [cur, w8I, addW]; omega)
theorem cur_cell {W : World} {base gb cap i : Nat} {s r : W8} (hr : Kd.R (Kd.int .u32) 95 W base (fun _ => True) (.slice (some ⟨gb, 0, none⟩) 8 cap) (cur s r i)) (hi : i < 8) : W.cell? ⟨gb, i, none⟩ = some (.int .u32 ((w8I r).getD i 0)) ∧ W.frozen? ⟨gb, i, none⟩ = false := by
  have hl : (cur s r i).length = 8 := by simp [cur, w8I]; omega
  obtain ⟨g2, c2, he2, _, _, cells, hh⟩ := Kd.R_form hr (by omega)
  injection he2 with he2 _ _
  injection he2 with he2
  injection he2 with he2
  subst he2
  refine ⟨?_, frozen_of_row _ _ _ _ _ hh⟩
  obtain ⟨A, c', he, _, hC⟩ := Kd.R_reads hr
  injection he with he _ _
  subst he
  obtain ⟨ad, had, hc⟩ := (Kd.reads_of_C (enc := Value.int .u32) (d := (0 : Int)) (h1 := fun _ => rfl) hC).2.2 (by omega)
  injection had with had
  subst had
  have q := hc i (by omega)
  rw [Addr.add_mid, Nat.zero_add] at q
  rw [q]
  congr 2
  unfold cur
  match i, hi with
  | 0, _ => rfl
  | 1, _ => rfl
  | 2, _ => rfl
  | 3, _ => rfl
  | 4, _ => rfl
  | 5, _ => rfl
  | 6, _ => rfl
  | 7, _ => rfl
theorem d_below {w w' : World} (h : Drawn0 w w') : Below w.heap.size w w' := by
  obtain ⟨n, rfl⟩ := h.out
  exact pw_below_drewN (Below.refl _ _) n
theorem rf_load4 (A : Option Addr) (c : Nat) (xs : List Int) (t : Nat) (a : Int) (w : World) (hC : Kd.C (Kd.int .u8) w A 64 xs) (hc : 64 ≤ c) (hx : IsB xs) (ht : t < 16) (ha : a = ((4 * t : Nat) : Int)) :
    Calls Try.prog 86 #[.slice A 64 c, .int .i64 a] w fun e w' => e = .returned (.tuple #[.int .u32 ((ldW xs t).toNat : Int), .int .i64 0]) ∧ Below w.heap.size w w' := by
  have hl := hC.1
  have h := carillonref01_Load.calls 30 A c xs a _ _ w (by rw [hl]; exact hC) (by rw [hl]; exact hc) (rload4 xs hx hl t ht a ha)
  rw [hl] at h
  exact h.mono (by rintro e w' ⟨rfl, hd⟩; exact ⟨rfl, d_below hd⟩)
theorem rb_start {w w1 W2 : World} {o3 : Obj} (hb : Below w.heap.size w w1) (hg : (w1.alloc o3).grownBy W2 (some w1.heap.size)) (hh : W2.heap[w1.heap.size]? = some (.cells (row64 KT) 142 (0, 0))) : Rb w (W2.alloc (.cells (row64 []) 142)) w1.heap.size W2.heap.size (schL [] 0) := by
  have hs : w1.heap.size < W2.heap.size := (Array.getElem?_eq_some_iff.1 hh).1
  have hb2 : Below w.heap.size w W2 := (hb.alloc hb.size o3).grown hg (by have := hb.size; simp; omega) (fun k hk => by injection hk with hk; rw [← hk]; exact hb.size)
  exact ⟨(Below.heap_alloc W2 _ _ hs).trans hh, heap_alloc_new _ _, by omega, by have := hb2.size; omega, hb2.alloc hb2.size _⟩
theorem rf_mixN17 (x : BitVec 32) (w : World) : Calls Try.prog 106 #[.int .u32 (x.toNat : Int), .int .i64 17, .int .i64 19, .int .i64 (-10)] w fun e w' => e = .returned (.int .u32 ((sS1 x).toNat : Int)) ∧ Below w.heap.size w w' :=
  (rf_mixN x 17 19 (-10) 17 19 10 w rfl rfl rfl (by decide) (by decide) (by decide) (by decide)).mono (by rintro e w' ⟨rfl, hd⟩; exact ⟨rfl, d_below hd⟩)
theorem rf_mixN7 (x : BitVec 32) (w : World) : Calls Try.prog 106 #[.int .u32 (x.toNat : Int), .int .i64 7, .int .i64 18, .int .i64 (-3)] w fun e w' => e = .returned (.int .u32 ((sS0 x).toNat : Int)) ∧ Below w.heap.size w w' :=
  (rf_mixN x 7 18 (-3) 7 18 3 w rfl rfl rfl (by decide) (by decide) (by decide) (by decide)).mono (by rintro e w' ⟨rfl, hd⟩; exact ⟨rfl, d_below hd⟩)
theorem rf_mix6 (x : BitVec 32) (w : World) : Calls Try.prog 106 #[.int .u32 (x.toNat : Int), .int .i64 6, .int .i64 11, .int .i64 25] w fun e w' => e = .returned (.int .u32 ((bS1 x).toNat : Int)) ∧ Below w.heap.size w w' :=
  (rf_mixP x 6 11 25 6 11 25 w rfl rfl rfl (by decide) (by decide) (by decide)).mono (by rintro e w' ⟨rfl, hd⟩; exact ⟨rfl, d_below hd⟩)
theorem rf_mix2 (x : BitVec 32) (w : World) : Calls Try.prog 106 #[.int .u32 (x.toNat : Int), .int .i64 2, .int .i64 13, .int .i64 22] w fun e w' => e = .returned (.int .u32 ((bS0 x).toNat : Int)) ∧ Below w.heap.size w w' :=
  (rf_mixP x 2 13 22 2 13 22 w rfl rfl rfl (by decide) (by decide) (by decide)).mono (by rintro e w' ⟨rfl, hd⟩; exact ⟨rfl, d_below hd⟩)
set_option maxHeartbeats 8000000 in
set_option maxRecDepth 100000 in
theorem rf_block (s : W8) (A0 A1 : Option Addr) (c0 c1 : Nat) (xs : List Int) (w : World) (hx : IsB xs) (hC0 : Kd.C (Kd.int .u32) w A0 8 (w8I s)) (hc0 : 8 ≤ c0) (hC1 : Kd.C (Kd.int .u8) w A1 64 xs) (hc1 : 64 ≤ c1) :
    Calls Try.prog 98 #[.slice A0 8 c0, .slice A1 64 c1] w fun e w' => ∃ v, e = .returned (.tuple #[v, .int .i64 0]) ∧ Kd.R (Kd.int .u32) 95 w' w.heap.size (fun _ => True) v (w8I (mixF KT xs s)) ∧ Below w.heap.size w w' := by
  have HC0 := Aside0.mk hC0
  have HC1 := Aside0.mk hC1
  have HX := Aside0.mk hx
  have HL := Aside0.mk hC1.1
  have HCC1 := Aside0.mk hc1
  have HCC0 := Aside0.mk hc0
  have I1 : Aside0 ((Try.prog.info? 142).map (·.size) = some 64) := ⟨by kernel_rfl⟩
  clear hC0 hC1 hx hc0 hc1
  go_enter Try.func98, Try.ntmps98
  go_wp2_with (first
    | (go_at_call 105; (with_reducible refine (rf_table _).mono ?_); rintro e w1 ⟨rfl, hb⟩; have HB1 := Aside0.mk hb; clear hb; obtain ⟨R, hR⟩ : ∃ R, row64 KT = R := ⟨_, rfl⟩; have HR := Aside0.mk hR; have HS := Aside0.mk (show R.size = 64 by rw [← hR, row_size KT (by decide)]); have HO := Aside0.mk (show R.all (·.oneCell') = true by rw [← hR]; exact row_one _); rw [hR]; clear hR)
    | ((with_reducible refine gate_store (t := 142) (p := 6) (v := .tmp 27) rfl ?_); refine x_arrStore rfl 142 (.tmp 6) (.tmp 27) rfl w1.heap.size (row64 []) R rfl rfl (heap_alloc_new _ _) (by rw [HS.out]; exact I1.out) (by rw [HS.out, row_size [] (by simp)]) HO.out ?_; intro W2 hh2 hg2; have GH := Aside0.mk hh2; have GG := Aside0.mk hg2; clear hh2 hg2))
  have hrb := rb_start HB1.out GG.out (by have g := GH.out; rw [← HR.out] at g; exact g)
  have KS := Aside0.mk hrb
  obtain ⟨BK, hBK⟩ : ∃ B, w1.heap.size = B := ⟨_, rfl⟩
  obtain ⟨BW, hBW⟩ : ∃ B, W2.heap.size = B := ⟨_, rfl⟩
  rw [hBK, hBW] at KS
  rw [hBK, hBW]
  have KS0 : Aside0 (Rb w (W2.alloc (.cells (row64 []) 142)) BK BW (schL xs 0)) := KS
  clear hrb HB1 GG GH HR HS HO hBK hBW KS
  go_loopw [8] (fun v8 wr => ∃ k : Nat, k ≤ 16 ∧ v8 = .int .i64 k ∧ Aside0 (Rb w wr BK BW (schL xs k))) (fun v8 _ => 16 - (intOf v8).toNat)
  case atStart => exact ⟨0, Nat.zero_le _, rfl, KS0⟩
  case round =>
    clear KS0
    obtain ⟨k, hk, rfl, KS⟩ := hrel
    by_cases hlt : k < 16
    · go_wp2_with (go_at_call 86; (with_reducible refine (rf_load4 A1 c1 xs k _ _ (Kd.C_below HC1.out (rb_below KS.out)) HCC1.out HX.out hlt (by omega)).mono ?_); rintro e w3 ⟨rfl, hb⟩; have KB3 := Aside0.mk (KS.out.below hb); obtain ⟨n1, n2⟩ := rw_next KB3.out.2.1 (by rw [schL_len]; omega); rw [schL_len] at n1 n2; clear hb)
      have hp := KB3.out.put (by omega) (ldW xs k)
      rw [← sch_lo xs hlt] at hp
      go_roundw
      case rel => exact ⟨k + 1, by omega, by simp, ⟨hp⟩⟩
      case measure => simp [intOf]; omega
    · obtain rfl : k = 16 := by omega
      clear hlt hk
      go_wp2
      go_loopw [11] (fun v11 wr => ∃ k : Nat, 16 ≤ k ∧ k ≤ 64 ∧ v11 = .int .i64 k ∧ Aside0 (Rb w wr BK BW (schL xs k))) (fun v11 _ => 64 - (intOf v11).toNat)
      case atStart => exact ⟨16, by omega, by omega, rfl, KS⟩
      case round =>
        clear KS
        obtain ⟨k, hk0, hk, rfl, KS⟩ := hrel
        by_cases hlt : k < 64
        · have hln := schL_len xs k
          obtain ⟨n1, n2⟩ := rw_next KS.out.2.1 (by omega)
          rw [hln] at n1 n2
          obtain ⟨j2, hj2⟩ : ∃ j, k - 2 = j := ⟨_, rfl⟩
          have c2 := rw_cell KS.out.2.1 (j := j2) (by omega)
          obtain ⟨x2, hx2⟩ : ∃ x, (schL xs k).getD j2 0 = x := ⟨_, rfl⟩
          rw [hx2] at c2
          have C2 : Aside0 (∀ W, Below wr.heap.size wr W → W.cell? ⟨BW, j2, none⟩ = some (.int .u32 (x2.toNat : Int))) := ⟨fun W hb => fl_low c2 hb⟩
          have N2 : Aside0 (j2 ≠ k) := ⟨by omega⟩
          have v2 : ((k : Int) - 2).toNat = j2 := by omega
          have p2 : 0 ≤ (k : Int) - 2 := by omega
          have o2 : (2 : Int) ≤ (k : Int) := by omega
          have y2 : (k : Int) < 66 := by omega
          have u2 : (k : Int) - 2 < 64 := by omega
          obtain ⟨j7, hj7⟩ : ∃ j, k - 7 = j := ⟨_, rfl⟩
          have c7 := rw_cell KS.out.2.1 (j := j7) (by omega)
          obtain ⟨x7, hx7⟩ : ∃ x, (schL xs k).getD j7 0 = x := ⟨_, rfl⟩
          rw [hx7] at c7
          have C7 : Aside0 (∀ W, Below wr.heap.size wr W → W.cell? ⟨BW, j7, none⟩ = some (.int .u32 (x7.toNat : Int))) := ⟨fun W hb => fl_low c7 hb⟩
          have N7 : Aside0 (j7 ≠ k) := ⟨by omega⟩
          have v7 : ((k : Int) - 7).toNat = j7 := by omega
          have p7 : 0 ≤ (k : Int) - 7 := by omega
          have o7 : (7 : Int) ≤ (k : Int) := by omega
          have y7 : (k : Int) < 71 := by omega
          have u7 : (k : Int) - 7 < 64 := by omega
          obtain ⟨j15, hj15⟩ : ∃ j, k - 15 = j := ⟨_, rfl⟩
          have c15 := rw_cell KS.out.2.1 (j := j15) (by omega)
          obtain ⟨x15, hx15⟩ : ∃ x, (schL xs k).getD j15 0 = x := ⟨_, rfl⟩
          rw [hx15] at c15
          have C15 : Aside0 (∀ W, Below wr.heap.size wr W → W.cell? ⟨BW, j15, none⟩ = some (.int .u32 (x15.toNat : Int))) := ⟨fun W hb => fl_low c15 hb⟩
          have N15 : Aside0 (j15 ≠ k) := ⟨by omega⟩
          have v15 : ((k : Int) - 15).toNat = j15 := by omega
          have p15 : 0 ≤ (k : Int) - 15 := by omega
          have o15 : (15 : Int) ≤ (k : Int) := by omega
          have y15 : (k : Int) < 79 := by omega
          have u15 : (k : Int) - 15 < 64 := by omega
          obtain ⟨j16, hj16⟩ : ∃ j, k - 16 = j := ⟨_, rfl⟩
          have c16 := rw_cell KS.out.2.1 (j := j16) (by omega)
          obtain ⟨x16, hx16⟩ : ∃ x, (schL xs k).getD j16 0 = x := ⟨_, rfl⟩
          rw [hx16] at c16
          have C16 : Aside0 (∀ W, Below wr.heap.size wr W → W.cell? ⟨BW, j16, none⟩ = some (.int .u32 (x16.toNat : Int))) := ⟨fun W hb => fl_low c16 hb⟩
          have N16 : Aside0 (j16 ≠ k) := ⟨by omega⟩
          have v16 : ((k : Int) - 16).toNat = j16 := by omega
          have p16 : 0 ≤ (k : Int) - 16 := by omega
          have o16 : (16 : Int) ≤ (k : Int) := by omega
          have y16 : (k : Int) < 80 := by omega
          have u16 : (k : Int) - 16 < 64 := by omega
          have u4 : (k : Int) < 64 := by omega
          have NX : Aside0 (∀ W, Below wr.heap.size wr W → W.cell? ⟨BW, k, none⟩ = some (.int .u32 0) ∧ W.frozen? ⟨BW, k, none⟩ = false) := ⟨fun W hb => by have q := rw_next (KS.out.below hb).2.1 (by rw [schL_len]; exact hlt); rwa [schL_len] at q⟩
          have hp : ∀ W, Below wr.heap.size wr W → Rb w (W.setCell ⟨BW, k, none⟩ (.int .u32 ((sS1 x2 + x7 + sS0 x15 + x16).toNat : Int))) BK BW (schL xs (k + 1)) := fun W hb => by
            have q := (KS.out.below hb).put hlt (sS1 x2 + x7 + sS0 x15 + x16)
            have hs := sch_hi xs (show ¬ k < 16 by omega)
            rw [hj2, hj7, hj15, hj16, hx2, hx7, hx15, hx16] at hs
            rw [← hs] at q
            exact q
          have HP := Aside0.mk hp
          have HV : Aside0 ((((((sS1 x2).toNat : Int) + (x7.toNat : Int)) % 4294967296 + ((sS0 x15).toNat : Int)) % 4294967296 + (x16.toNat : Int)) % 4294967296 = ((sS1 x2 + x7 + sS0 x15 + x16).toNat : Int)) := ⟨by rw [sh_add, sh_add, sh_add]⟩
          have HZ := Aside0.mk (Below.refl wr.heap.size wr)
          clear hj2 hj7 hj15 hj16 hx2 hx7 hx15 hx16 c2 c7 c15 c16 hp hln n1 n2
          go_wp2
          have w2 : wrap64 ((k : Int) - 2) = (k : Int) - 2 := x_w64 (by omega) (by omega)
          have w7 : wrap64 ((k : Int) - 7) = (k : Int) - 7 := x_w64 (by omega) (by omega)
          have w15 : wrap64 ((k : Int) - 15) = (k : Int) - 15 := x_w64 (by omega) (by omega)
          have w16 : wrap64 ((k : Int) - 16) = (k : Int) - 16 := x_w64 (by omega) (by omega)
          refine start_ (n := 24) (S := fun w' => w'.cell? ⟨BW, j2, none⟩ = some (.int .u32 (x2.toNat : Int)) ∧ w'.cell? ⟨BW, j7, none⟩ = some (.int .u32 (x7.toNat : Int)) ∧ w'.cell? ⟨BW, j15, none⟩ = some (.int .u32 (x15.toNat : Int)) ∧ w'.cell? ⟨BW, j16, none⟩ = some (.int .u32 (x16.toNat : Int))) (ds := []) #[false, false, false, false, false, false, false, false, false, false, false, false, false, false, false, false, false, false, false, false, false, false, false, false] (by kernel_rfl) rfl rfl ⟨(by first | (refine C2.out _ ?_; (repeat (first | exact HZ.out | apply below_drew | apply pw_below_drewN)); done) | (refine sc_other (C2.out _ ?_) N2.out; (repeat (first | exact HZ.out | apply below_drew | apply pw_below_drewN)); done)), (by first | (refine C7.out _ ?_; (repeat (first | exact HZ.out | apply below_drew | apply pw_below_drewN)); done) | (refine sc_other (C7.out _ ?_) N7.out; (repeat (first | exact HZ.out | apply below_drew | apply pw_below_drewN)); done)), (by first | (refine C15.out _ ?_; (repeat (first | exact HZ.out | apply below_drew | apply pw_below_drewN)); done) | (refine sc_other (C15.out _ ?_) N15.out; (repeat (first | exact HZ.out | apply below_drew | apply pw_below_drewN)); done)), (by first | (refine C16.out _ ?_; (repeat (first | exact HZ.out | apply below_drew | apply pw_below_drewN)); done) | (refine sc_other (C16.out _ ?_) N16.out; (repeat (first | exact HZ.out | apply below_drew | apply pw_below_drewN)); done))⟩ (fun hHeld => ?_); refine with_tabW rb13.tab13 rb13.bits13 (fun HT_ HW_ => ?_)
          refine take_ (i := 0) (N := (some 46)) (v := ?_) (a' := ?_) #[true, false, false, false, false, false, false, false, false, false, false, false, false, false, false, false, false, false, false, false, false, false, false, false] rfl rfl (take_ofW HT_.out HW_.out (by kernel_rfl)) (fun _ _ _ h => h) (Or.inl ⟨by rfl, ?_⟩) hHeld ?_ ?_
          rotate_left
          · rintro w' ⟨s0_, s1_, s2_, s3_⟩
            go_simp
            with_reducible rfl
          rotate_left
          · simp only [Act.put, List.setIfInBounds_toArray, List.set_cons_zero, List.set_cons_succ, i64_w, i32_w]
            rfl
          refine take_ (i := 1) (N := (some 47)) (v := ?_) (a' := ?_) #[true, true, false, false, false, false, false, false, false, false, false, false, false, false, false, false, false, false, false, false, false, false, false, false] rfl rfl (take_ofW HT_.out HW_.out (by kernel_rfl)) (fun _ _ _ h => h) (Or.inl ⟨by rfl, ?_⟩) hHeld ?_ ?_
          rotate_left
          · rintro w' ⟨s0_, s1_, s2_, s3_⟩
            go_simp
            with_reducible rfl
          rotate_left
          · simp only [Act.put, List.setIfInBounds_toArray, List.set_cons_zero, List.set_cons_succ, i64_w, i32_w]
            rfl
          refine take_ (i := 2) (N := (some 48)) (v := ?_) (a' := ?_) #[true, true, true, false, false, false, false, false, false, false, false, false, false, false, false, false, false, false, false, false, false, false, false, false] rfl rfl (take_ofW HT_.out HW_.out (by kernel_rfl)) (fun _ _ _ h => h) (Or.inl ⟨by rfl, ?_⟩) hHeld ?_ ?_
          rotate_left
          · rintro w' ⟨s0_, s1_, s2_, s3_⟩
            go_simp
            with_reducible rfl
          rotate_left
          · simp only [Act.put, List.setIfInBounds_toArray, List.set_cons_zero, List.set_cons_succ, i64_w, i32_w]
            rfl
          refine take_ (i := 3) (N := (some 49)) (v := ?_) (a' := ?_) #[true, true, true, true, false, false, false, false, false, false, false, false, false, false, false, false, false, false, false, false, false, false, false, false] rfl rfl (take_ofW HT_.out HW_.out (by kernel_rfl)) (fun _ _ _ h => h) (Or.inl ⟨by rfl, ?_⟩) hHeld ?_ ?_
          rotate_left
          · rintro w' ⟨s0_, s1_, s2_, s3_⟩
            go_simp
            with_reducible rfl
          rotate_left
          · simp only [Act.put, List.setIfInBounds_toArray, List.set_cons_zero, List.set_cons_succ, i64_w, i32_w]
            rfl
          refine take_ (i := 4) (N := (some 50)) (v := ?_) (a' := ?_) #[true, true, true, true, true, false, false, false, false, false, false, false, false, false, false, false, false, false, false, false, false, false, false, false] rfl rfl (take_ofW HT_.out HW_.out (by kernel_rfl)) (fun _ _ _ h => h) (Or.inl ⟨by rfl, ?_⟩) hHeld ?_ ?_
          rotate_left
          · rintro w' ⟨s0_, s1_, s2_, s3_⟩
            go_simp
            with_reducible rfl
          rotate_left
          · simp only [Act.put, List.setIfInBounds_toArray, List.set_cons_zero, List.set_cons_succ, i64_w, i32_w]
            rfl
          refine take_ (i := 6) (N := (some 52)) (v := ?_) (a' := ?_) #[true, true, true, true, true, false, true, false, false, false, false, false, false, false, false, false, false, false, false, false, false, false, false, false] rfl rfl (take_ofW HT_.out HW_.out (by kernel_rfl)) (fun _ _ _ h => h) (Or.inl ⟨by rfl, ?_⟩) hHeld ?_ ?_
          rotate_left
          · rintro w' ⟨s0_, s1_, s2_, s3_⟩
            go_simp
            with_reducible rfl
          rotate_left
          · simp only [Act.put, List.setIfInBounds_toArray, List.set_cons_zero, List.set_cons_succ, i64_w, i32_w]
            rfl
          refine take_ (i := 7) (N := (some 53)) (v := ?_) (a' := ?_) #[true, true, true, true, true, false, true, true, false, false, false, false, false, false, false, false, false, false, false, false, false, false, false, false] rfl rfl (take_ofW HT_.out HW_.out (by kernel_rfl)) (fun _ _ _ h => h) (Or.inl ⟨by rfl, ?_⟩) hHeld ?_ ?_
          rotate_left
          · rintro w' ⟨s0_, s1_, s2_, s3_⟩
            go_simp
            with_reducible rfl
          rotate_left
          · simp only [Act.put, List.setIfInBounds_toArray, List.set_cons_zero, List.set_cons_succ, i64_w, i32_w]
            rfl
          refine take_ (i := 8) (N := (some 54)) (v := ?_) (a' := ?_) #[true, true, true, true, true, false, true, true, true, false, false, false, false, false, false, false, false, false, false, false, false, false, false, false] rfl rfl (take_ofW HT_.out HW_.out (by kernel_rfl)) (fun _ _ _ h => h) (Or.inl ⟨by rfl, ?_⟩) hHeld ?_ ?_
          rotate_left
          · rintro w' ⟨s0_, s1_, s2_, s3_⟩
            go_simp
            with_reducible rfl
          rotate_left
          · simp only [Act.put, List.setIfInBounds_toArray, List.set_cons_zero, List.set_cons_succ, i64_w, i32_w]
            rfl
          refine take_ (i := 9) (N := (some 55)) (v := ?_) (a' := ?_) #[true, true, true, true, true, false, true, true, true, true, false, false, false, false, false, false, false, false, false, false, false, false, false, false] rfl rfl (take_ofW HT_.out HW_.out (by kernel_rfl)) (fun _ _ _ h => h) (Or.inl ⟨by rfl, ?_⟩) hHeld ?_ ?_
          rotate_left
          · rintro w' ⟨s0_, s1_, s2_, s3_⟩
            go_simp
            with_reducible rfl
          rotate_left
          · simp only [Act.put, List.setIfInBounds_toArray, List.set_cons_zero, List.set_cons_succ, i64_w, i32_w]
            rfl
          refine take_ (i := 11) (N := (some 57)) (v := ?_) (a' := ?_) #[true, true, true, true, true, false, true, true, true, true, false, true, false, false, false, false, false, false, false, false, false, false, false, false] rfl rfl (take_ofW HT_.out HW_.out (by kernel_rfl)) (fun _ _ _ h => h) (Or.inl ⟨by rfl, ?_⟩) hHeld ?_ ?_
          rotate_left
          · rintro w' ⟨s0_, s1_, s2_, s3_⟩
            go_simp
            with_reducible rfl
          rotate_left
          · simp only [Act.put, List.setIfInBounds_toArray, List.set_cons_zero, List.set_cons_succ, i64_w, i32_w]
            rfl
          refine take_ (i := 12) (N := (some 58)) (v := ?_) (a' := ?_) #[true, true, true, true, true, false, true, true, true, true, false, true, true, false, false, false, false, false, false, false, false, false, false, false] rfl rfl (take_ofW HT_.out HW_.out (by kernel_rfl)) (fun _ _ _ h => h) (Or.inl ⟨by rfl, ?_⟩) hHeld ?_ ?_
          rotate_left
          · rintro w' ⟨s0_, s1_, s2_, s3_⟩
            go_simp
            with_reducible rfl
          rotate_left
          · simp only [Act.put, List.setIfInBounds_toArray, List.set_cons_zero, List.set_cons_succ, i64_w, i32_w]
            rfl
          refine take_ (i := 13) (N := (some 59)) (v := ?_) (a' := ?_) #[true, true, true, true, true, false, true, true, true, true, false, true, true, true, false, false, false, false, false, false, false, false, false, false] rfl rfl (take_ofW HT_.out HW_.out (by kernel_rfl)) (fun _ _ _ h => h) (Or.inl ⟨by rfl, ?_⟩) hHeld ?_ ?_
          rotate_left
          · rintro w' ⟨s0_, s1_, s2_, s3_⟩
            go_simp
            with_reducible rfl
          rotate_left
          · simp only [Act.put, List.setIfInBounds_toArray, List.set_cons_zero, List.set_cons_succ, i64_w, i32_w]
            rfl
          refine take_ (i := 14) (N := (some 60)) (v := ?_) (a' := ?_) #[true, true, true, true, true, false, true, true, true, true, false, true, true, true, true, false, false, false, false, false, false, false, false, false] rfl rfl (take_ofW HT_.out HW_.out (by kernel_rfl)) (fun _ _ _ h => h) (Or.inl ⟨by rfl, ?_⟩) hHeld ?_ ?_
          rotate_left
          · rintro w' ⟨s0_, s1_, s2_, s3_⟩
            go_simp
            with_reducible rfl
          rotate_left
          · simp only [Act.put, List.setIfInBounds_toArray, List.set_cons_zero, List.set_cons_succ, i64_w, i32_w]
            rfl
          refine take_ (i := 17) (N := (some 63)) (v := ?_) (a' := ?_) #[true, true, true, true, true, false, true, true, true, true, false, true, true, true, true, false, false, true, false, false, false, false, false, false] rfl rfl (take_ofW HT_.out HW_.out (by kernel_rfl)) (fun _ _ _ h => h) (Or.inl ⟨by rfl, ?_⟩) hHeld ?_ ?_
          rotate_left
          · rintro w' ⟨s0_, s1_, s2_, s3_⟩
            go_simp
            with_reducible rfl
          rotate_left
          · simp only [Act.put, List.setIfInBounds_toArray, List.set_cons_zero, List.set_cons_succ, i64_w, i32_w]
            rfl
          refine take_ (i := 18) (N := (some 64)) (v := ?_) (a' := ?_) #[true, true, true, true, true, false, true, true, true, true, false, true, true, true, true, false, false, true, true, false, false, false, false, false] rfl rfl (take_ofW HT_.out HW_.out (by kernel_rfl)) (fun _ _ _ h => h) (Or.inl ⟨by rfl, ?_⟩) hHeld ?_ ?_
          rotate_left
          · rintro w' ⟨s0_, s1_, s2_, s3_⟩
            go_simp
            with_reducible rfl
          rotate_left
          · simp only [Act.put, List.setIfInBounds_toArray, List.set_cons_zero, List.set_cons_succ, i64_w, i32_w]
            rfl
          refine take_ (i := 19) (N := (some 65)) (v := ?_) (a' := ?_) #[true, true, true, true, true, false, true, true, true, true, false, true, true, true, true, false, false, true, true, true, false, false, false, false] rfl rfl (take_ofW HT_.out HW_.out (by kernel_rfl)) (fun _ _ _ h => h) (Or.inl ⟨by rfl, ?_⟩) hHeld ?_ ?_
          rotate_left
          · rintro w' ⟨s0_, s1_, s2_, s3_⟩
            go_simp
            with_reducible rfl
          rotate_left
          · simp only [Act.put, List.setIfInBounds_toArray, List.set_cons_zero, List.set_cons_succ, i64_w, i32_w]
            rfl
          refine take_ (i := 20) (N := (some 66)) (v := ?_) (a' := ?_) #[true, true, true, true, true, false, true, true, true, true, false, true, true, true, true, false, false, true, true, true, true, false, false, false] rfl rfl (take_ofW HT_.out HW_.out (by kernel_rfl)) (fun _ _ _ h => h) (Or.inl ⟨by rfl, ?_⟩) hHeld ?_ ?_
          rotate_left
          · rintro w' ⟨s0_, s1_, s2_, s3_⟩
            go_simp
            with_reducible rfl
          rotate_left
          · simp only [Act.put, List.setIfInBounds_toArray, List.set_cons_zero, List.set_cons_succ, i64_w, i32_w]
            rfl
          refine one_ (i := 5) (N := (some 51)) #[true, true, true, true, true, true, true, true, true, true, false, true, true, true, true, false, false, true, true, true, true, false, false, false] rfl rfl (one_of HT_.out (by kernel_rfl)) (by decide) (fun K hK => ?_)
          refine goes_ Try.func106 (by kernel_rfl) rfl #[.int .u32 (x2.toNat : Int), .int .i64 17, .int .i64 19, .int .i64 (-10)] (by rfl) rfl rfl (by first | rfl | (simp only [List.map_toArray, List.map_cons, List.map_nil]; try rfl)) ?_
          (with_reducible refine (rf_mixN17 x2 _).mono ?_)
          rintro e_ w_ ⟨rfl, hb⟩
          have HZn := Aside0.mk (below_step (by repeat (first | exact HZ.out | apply below_drew | apply pw_below_drewN)) hb)
          clear HZ hb
          have HZ := HZn
          clear HZn
          refine ⟨_, rfl, ?_⟩
          refine hK.out _ _ ⟨(by first | (refine C2.out _ ?_; (repeat (first | exact HZ.out | apply below_drew | apply pw_below_drewN)); done) | (refine sc_other (C2.out _ ?_) N2.out; (repeat (first | exact HZ.out | apply below_drew | apply pw_below_drewN)); done)), (by first | (refine C7.out _ ?_; (repeat (first | exact HZ.out | apply below_drew | apply pw_below_drewN)); done) | (refine sc_other (C7.out _ ?_) N7.out; (repeat (first | exact HZ.out | apply below_drew | apply pw_below_drewN)); done)), (by first | (refine C15.out _ ?_; (repeat (first | exact HZ.out | apply below_drew | apply pw_below_drewN)); done) | (refine sc_other (C15.out _ ?_) N15.out; (repeat (first | exact HZ.out | apply below_drew | apply pw_below_drewN)); done)), (by first | (refine C16.out _ ?_; (repeat (first | exact HZ.out | apply below_drew | apply pw_below_drewN)); done) | (refine sc_other (C16.out _ ?_) N16.out; (repeat (first | exact HZ.out | apply below_drew | apply pw_below_drewN)); done))⟩ (fun hHeld => ?_)
          clear hK K
          refine norm_ (a' := ?_) ?_ ?_
          rotate_left
          · show Act.put _ (some 51) _ = _
            simp only [Act.put, List.setIfInBounds_toArray, List.set_cons_zero, List.set_cons_succ, i64_w, i32_w]
            rfl
          refine take_ (i := 10) (N := (some 56)) (v := ?_) (a' := ?_) #[true, true, true, true, true, true, true, true, true, true, true, true, true, true, true, false, false, true, true, true, true, false, false, false] rfl rfl (take_ofW HT_.out HW_.out (by kernel_rfl)) (fun _ _ _ h => h) (Or.inl ⟨by rfl, ?_⟩) hHeld ?_ ?_
          rotate_left
          · rintro w' ⟨s0_, s1_, s2_, s3_⟩
            go_simp
            with_reducible rfl
          rotate_left
          · simp only [Act.put, List.setIfInBounds_toArray, List.set_cons_zero, List.set_cons_succ, i64_w, i32_w]
            rfl
          refine one_ (i := 15) (N := (some 61)) #[true, true, true, true, true, true, true, true, true, true, true, true, true, true, true, true, false, true, true, true, true, false, false, false] rfl rfl (one_of HT_.out (by kernel_rfl)) (by decide) (fun K hK => ?_)
          refine goes_ Try.func106 (by kernel_rfl) rfl #[.int .u32 (x15.toNat : Int), .int .i64 7, .int .i64 18, .int .i64 (-3)] (by rfl) rfl rfl (by first | rfl | (simp only [List.map_toArray, List.map_cons, List.map_nil]; try rfl)) ?_
          (with_reducible refine (rf_mixN7 x15 _).mono ?_)
          rintro e_ w_ ⟨rfl, hb⟩
          have HZn := Aside0.mk (below_step (by repeat (first | exact HZ.out | apply below_drew | apply pw_below_drewN)) hb)
          clear HZ hb
          have HZ := HZn
          clear HZn
          refine ⟨_, rfl, ?_⟩
          refine hK.out _ _ ⟨(by first | (refine C2.out _ ?_; (repeat (first | exact HZ.out | apply below_drew | apply pw_below_drewN)); done) | (refine sc_other (C2.out _ ?_) N2.out; (repeat (first | exact HZ.out | apply below_drew | apply pw_below_drewN)); done)), (by first | (refine C7.out _ ?_; (repeat (first | exact HZ.out | apply below_drew | apply pw_below_drewN)); done) | (refine sc_other (C7.out _ ?_) N7.out; (repeat (first | exact HZ.out | apply below_drew | apply pw_below_drewN)); done)), (by first | (refine C15.out _ ?_; (repeat (first | exact HZ.out | apply below_drew | apply pw_below_drewN)); done) | (refine sc_other (C15.out _ ?_) N15.out; (repeat (first | exact HZ.out | apply below_drew | apply pw_below_drewN)); done)), (by first | (refine C16.out _ ?_; (repeat (first | exact HZ.out | apply below_drew | apply pw_below_drewN)); done) | (refine sc_other (C16.out _ ?_) N16.out; (repeat (first | exact HZ.out | apply below_drew | apply pw_below_drewN)); done))⟩ (fun hHeld => ?_)
          clear hK K
          refine norm_ (a' := ?_) ?_ ?_
          rotate_left
          · show Act.put _ (some 61) _ = _
            simp only [Act.put, List.setIfInBounds_toArray, List.set_cons_zero, List.set_cons_succ, i64_w, i32_w]
            rfl
          refine take_ (i := 16) (N := (some 62)) (v := ?_) (a' := ?_) #[true, true, true, true, true, true, true, true, true, true, true, true, true, true, true, true, true, true, true, true, true, false, false, false] rfl rfl (take_ofW HT_.out HW_.out (by kernel_rfl)) (fun _ _ _ h => h) (Or.inl ⟨by rfl, ?_⟩) hHeld ?_ ?_
          rotate_left
          · rintro w' ⟨s0_, s1_, s2_, s3_⟩
            go_simp
            with_reducible rfl
          rotate_left
          · simp only [Act.put, List.setIfInBounds_toArray, List.set_cons_zero, List.set_cons_succ, i64_w, i32_w]
            rfl
          refine take_ (i := 21) (N := (some 67)) (v := ?_) (a' := ?_) #[true, true, true, true, true, true, true, true, true, true, true, true, true, true, true, true, true, true, true, true, true, true, false, false] rfl rfl (take_ofW HT_.out HW_.out (by kernel_rfl)) (fun _ _ _ h => h) (Or.inl ⟨by rfl, ?_⟩) hHeld ?_ ?_
          rotate_left
          · rintro w' ⟨s0_, s1_, s2_, s3_⟩
            go_simp
            with_reducible rfl
          rotate_left
          · simp only [Act.put, List.setIfInBounds_toArray, List.set_cons_zero, List.set_cons_succ, i64_w, i32_w]
            rfl
          refine take_ (i := 22) (N := (some 68)) (v := ?_) (a' := ?_) #[true, true, true, true, true, true, true, true, true, true, true, true, true, true, true, true, true, true, true, true, true, true, true, false] rfl rfl (take_ofW HT_.out HW_.out (by kernel_rfl)) (fun _ _ _ h => h) (Or.inl ⟨by rfl, ?_⟩) hHeld ?_ ?_
          rotate_left
          · rintro w' ⟨s0_, s1_, s2_, s3_⟩
            go_simp
            with_reducible rfl
          rotate_left
          · simp only [Act.put, List.setIfInBounds_toArray, List.set_cons_zero, List.set_cons_succ, i64_w, i32_w]
            rfl
          refine one_ (i := 23) (N := none) #[true, true, true, true, true, true, true, true, true, true, true, true, true, true, true, true, true, true, true, true, true, true, true, true] rfl rfl (one_of HT_.out (by kernel_rfl)) (by decide) (fun K hK => ?_)
          refine skip_ (by rfl) rfl (w1 := ?_) ?_ ?_
          rotate_left 1
          · (obtain ⟨n1, n2⟩ := NX.out _ (by repeat (first | exact HZ.out | apply below_drew | apply pw_below_drewN)); go_simp; first | (with_reducible rfl) | trace_state)
          refine hK.out _ _ ⟨(by first | (refine C2.out _ ?_; (repeat (first | exact HZ.out | apply below_drew | apply pw_below_drewN)); done) | (refine sc_other (C2.out _ ?_) N2.out; (repeat (first | exact HZ.out | apply below_drew | apply pw_below_drewN)); done)), (by first | (refine C7.out _ ?_; (repeat (first | exact HZ.out | apply below_drew | apply pw_below_drewN)); done) | (refine sc_other (C7.out _ ?_) N7.out; (repeat (first | exact HZ.out | apply below_drew | apply pw_below_drewN)); done)), (by first | (refine C15.out _ ?_; (repeat (first | exact HZ.out | apply below_drew | apply pw_below_drewN)); done) | (refine sc_other (C15.out _ ?_) N15.out; (repeat (first | exact HZ.out | apply below_drew | apply pw_below_drewN)); done)), (by first | (refine C16.out _ ?_; (repeat (first | exact HZ.out | apply below_drew | apply pw_below_drewN)); done) | (refine sc_other (C16.out _ ?_) N16.out; (repeat (first | exact HZ.out | apply below_drew | apply pw_below_drewN)); done))⟩ (fun hHeld => ?_)
          clear hK K
          refine done_ (done_of HT_.out (by kernel_rfl)) ?_
          clear w2 w7 w15 w16
          go_wp2
          rw [HV.out]
          go_roundw
          case rel => exact ⟨k + 1, by omega, by omega, by simp, ⟨(HP.out _ (by repeat (first | exact HZ.out | apply below_drew | apply pw_below_drewN))).below (by repeat (first | exact Below.refl _ _ | apply below_drew | apply pw_below_drewN))⟩⟩
          case measure => simp [intOf]; omega
        · obtain rfl : k = 64 := by omega
          clear hlt hk hk0
          go_wp2_with ((with_reducible refine gate_dst (N := 71) rfl ?_); (refine x_append .u32 wr.heap.size rfl (.tmp 69) (.tmp 70) 119 95 4 rfl Try.underlying119 r8_info (by decide) (.slice (some ⟨wr.heap.size, 0, none⟩) 0 0) [] (w8I s) A0 8 c0 rfl rfl (r8_empty wr 95) (Kd.C_below HC0.out (KS.out.2.2.2.2.alloc KS.out.2.2.2.2.size _)) ((Below.refl _ wr).alloc (Nat.le_refl _) _) (by simp) (by simp) ?_); intro v2 W3 ho2 hb2 hg2 hn2; rw [List.nil_append] at ho2; have HO2 := Aside0.mk (Kd.R_lower ho2 KS.out.2.2.2.2.size); have KS2 := Aside0.mk (KS.out.below hb2); clear ho2 hb2 hg2 hn2)
          go_loopw [12, 13] (fun v12 v13 wr => ∃ (k : Nat) (r : W8), k ≤ 64 ∧ v13 = .int .i64 k ∧ Aside0 (Kd.R (Kd.int .u32) 95 wr w.heap.size (fun _ => True) v12 (w8I r)) ∧ Aside0 (r = rnds KT (schL xs 64) k s) ∧ Aside0 (Rb w wr BK BW (schL xs 64))) (fun _ v13 _ => 64 - (intOf v13).toNat)
          case atStart => exact ⟨0, s, Nat.zero_le _, rfl, HO2, ⟨rfl⟩, KS2⟩
          case round =>
            clear HO2 KS2 KS
            obtain ⟨k, ⟨a, b, c, d, e, f, g, h⟩, hk, rfl, HO, HRR, KS⟩ := hrel
            by_cases hlt : k < 64
            · obtain ⟨gb, cap, rfl, c8⟩ := r8_cells HO.out
              obtain ⟨q0, q1, q2, q3, q4, q5, q6, q7⟩ := c8
              have C8 : Aside0 (∀ W, Below wr.heap.size wr W → W.cell? ⟨gb, 0, none⟩ = some (.int .u32 (a.toNat : Int)) ∧ W.cell? ⟨gb, 1, none⟩ = some (.int .u32 (b.toNat : Int)) ∧ W.cell? ⟨gb, 2, none⟩ = some (.int .u32 (c.toNat : Int)) ∧ W.cell? ⟨gb, 3, none⟩ = some (.int .u32 (d.toNat : Int)) ∧ W.cell? ⟨gb, 4, none⟩ = some (.int .u32 (e.toNat : Int)) ∧ W.cell? ⟨gb, 5, none⟩ = some (.int .u32 (f.toNat : Int)) ∧ W.cell? ⟨gb, 6, none⟩ = some (.int .u32 (g.toNat : Int)) ∧ W.cell? ⟨gb, 7, none⟩ = some (.int .u32 (h.toNat : Int))) := ⟨fun W hb => ⟨fl_low q0 hb, fl_low q1 hb, fl_low q2 hb, fl_low q3 hb, fl_low q4 hb, fl_low q5 hb, fl_low q6 hb, fl_low q7 hb⟩⟩
              obtain ⟨kk, hkk⟩ : ∃ x, KT.getD k 0 = x := ⟨_, rfl⟩
              obtain ⟨ww, hww⟩ : ∃ x, (schL xs 64).getD k 0 = x := ⟨_, rfl⟩
              have ck := rw_cell KS.out.1 (j := k) hlt
              have cw := rw_cell KS.out.2.1 (j := k) (by rw [schL_len]; exact hlt)
              rw [hkk] at ck
              rw [hww] at cw
              have CK : Aside0 (∀ W, Below wr.heap.size wr W → W.cell? ⟨BK, k, none⟩ = some (.int .u32 (kk.toNat : Int))) := ⟨fun W hb => fl_low ck hb⟩
              have CW : Aside0 (∀ W, Below wr.heap.size wr W → W.cell? ⟨BW, k, none⟩ = some (.int .u32 (ww.toNat : Int))) := ⟨fun W hb => fl_low cw hb⟩
              have hnext : rnd kk ww ⟨a, b, c, d, e, f, g, h⟩ = rnds KT (schL xs 64) (k + 1) s := by
                rw [HRR.out, rnds, hkk, hww]
              have HN := Aside0.mk hnext
              obtain ⟨T1, hT1⟩ : ∃ T, h + bS1 e + (g ^^^ (e &&& (f ^^^ g))) + kk + ww = T := ⟨_, rfl⟩
              obtain ⟨T2, hT2⟩ : ∃ T, bS0 a + ((a &&& b) ||| (c &&& (a ||| b))) = T := ⟨_, rfl⟩
              have HRN : Aside0 (rnd kk ww ⟨a, b, c, d, e, f, g, h⟩ = ⟨T1 + T2, a, b, c, d + T1, e, f, g⟩) := ⟨by unfold rnd; rw [hT1, hT2]⟩
              have HT1 : Aside0 (IntKind.u32.wrap (IntKind.u32.wrap (IntKind.u32.wrap (IntKind.u32.wrap ((h.toNat : Int) + ((bS1 e).toNat : Int)) + Go.bits .xor .u32 (Go.bits .and .u32 (e.toNat : Int) (f.toNat : Int)) (Go.bits .and .u32 (Go.bits .xor .u32 IntKind.u32.max (e.toNat : Int)) (g.toNat : Int))) + (kk.toNat : Int)) + (ww.toNat : Int)) = (T1.toNat : Int)) := ⟨by rw [← hT1, show IntKind.u32.max = ((4294967295#32).toNat : Int) from by decide, x_xor32, x_and32, x_and32, x_xor32, ch_eq, sh_addW, sh_addW, sh_addW, sh_addW]⟩
              have HT2 : Aside0 (IntKind.u32.wrap (((bS0 a).toNat : Int) + Go.bits .xor .u32 (Go.bits .xor .u32 (Go.bits .and .u32 (a.toNat : Int) (b.toNat : Int)) (Go.bits .and .u32 (a.toNat : Int) (c.toNat : Int))) (Go.bits .and .u32 (b.toNat : Int) (c.toNat : Int))) = (T2.toNat : Int)) := ⟨by rw [← hT2, x_and32, x_and32, x_and32, x_xor32, x_xor32, maj_eq, sh_addW]⟩
              have HZ := Aside0.mk (Below.refl wr.heap.size wr)
              have t1 : (k : Int) < 64 := by omega
              have b1 := x_lt 32 T1
              have b2 := x_lt 32 T2
              clear hkk hww ck cw hnext HRR hT1 hT2
              go_wp2
              refine start_ (n := 28) (S := fun w' => w'.cell? ⟨gb, 7, none⟩ = some (.int .u32 (h.toNat : Int)) ∧ w'.cell? ⟨gb, 5, none⟩ = some (.int .u32 (f.toNat : Int)) ∧ w'.cell? ⟨gb, 6, none⟩ = some (.int .u32 (g.toNat : Int)) ∧ w'.cell? ⟨BK, k, none⟩ = some (.int .u32 (kk.toNat : Int)) ∧ w'.cell? ⟨BW, k, none⟩ = some (.int .u32 (ww.toNat : Int))) (ds := []) #[false, false, false, false, false, false, false, false, false, false, false, false, false, false, false, false, false, false, false, false, false, false, false, false, false, false, false, false] (by kernel_rfl) rfl rfl ⟨(C8.out _ (by repeat (first | exact HZ.out | apply below_drew | apply pw_below_drewN))).2.2.2.2.2.2.2, (C8.out _ (by repeat (first | exact HZ.out | apply below_drew | apply pw_below_drewN))).2.2.2.2.2.1, (C8.out _ (by repeat (first | exact HZ.out | apply below_drew | apply pw_below_drewN))).2.2.2.2.2.2.1, CK.out _ (by repeat (first | exact HZ.out | apply below_drew | apply pw_below_drewN)), CW.out _ (by repeat (first | exact HZ.out | apply below_drew | apply pw_below_drewN))⟩ (fun hHeld => ?_); refine with_tabW rb20.tab20 rb20.bits20 (fun HT_ HW_ => ?_)
              refine take_ (i := 0) (N := (some 82)) (v := ?_) (a' := ?_) #[true, false, false, false, false, false, false, false, false, false, false, false, false, false, false, false, false, false, false, false, false, false, false, false, false, false, false, false] rfl rfl (take_ofW HT_.out HW_.out (by kernel_rfl)) (fun _ _ _ h => h) (Or.inl ⟨by rfl, ?_⟩) hHeld ?_ ?_
              rotate_left
              · rintro w' ⟨s0_, s1_, s2_, s3_, s4_⟩
                go_simp
                with_reducible rfl
              rotate_left
              · simp only [Act.put, List.setIfInBounds_toArray, List.set_cons_zero, List.set_cons_succ, i64_w, i32_w]
                rfl
              refine take_ (i := 1) (N := (some 83)) (v := ?_) (a' := ?_) #[true, true, false, false, false, false, false, false, false, false, false, false, false, false, false, false, false, false, false, false, false, false, false, false, false, false, false, false] rfl rfl (take_ofW HT_.out HW_.out (by kernel_rfl)) (fun _ _ _ h => h) (Or.inl ⟨by rfl, ?_⟩) hHeld ?_ ?_
              rotate_left
              · rintro w' ⟨s0_, s1_, s2_, s3_, s4_⟩
                go_simp
                with_reducible rfl
              rotate_left
              · simp only [Act.put, List.setIfInBounds_toArray, List.set_cons_zero, List.set_cons_succ, i64_w, i32_w]
                rfl
              refine take_ (i := 2) (N := (some 84)) (v := ?_) (a' := ?_) #[true, true, true, false, false, false, false, false, false, false, false, false, false, false, false, false, false, false, false, false, false, false, false, false, false, false, false, false] rfl rfl (take_ofW HT_.out HW_.out (by kernel_rfl)) (fun _ _ _ h => h) (Or.inl ⟨by rfl, ?_⟩) hHeld ?_ ?_
              rotate_left
              · rintro w' ⟨s0_, s1_, s2_, s3_, s4_⟩
                go_simp
                with_reducible rfl
              rotate_left
              · simp only [Act.put, List.setIfInBounds_toArray, List.set_cons_zero, List.set_cons_succ, i64_w, i32_w]
                rfl
              refine take_ (i := 3) (N := (some 85)) (v := ?_) (a' := ?_) #[true, true, true, true, false, false, false, false, false, false, false, false, false, false, false, false, false, false, false, false, false, false, false, false, false, false, false, false] rfl rfl (take_ofW HT_.out HW_.out (by kernel_rfl)) (fun _ _ _ h => h) (Or.inl ⟨by rfl, ?_⟩) hHeld ?_ ?_
              rotate_left
              · rintro w' ⟨s0_, s1_, s2_, s3_, s4_⟩
                go_simp
                with_reducible rfl
              rotate_left
              · simp only [Act.put, List.setIfInBounds_toArray, List.set_cons_zero, List.set_cons_succ, i64_w, i32_w]
                rfl
              refine take_ (i := 6) (N := (some 88)) (v := ?_) (a' := ?_) #[true, true, true, true, false, false, true, false, false, false, false, false, false, false, false, false, false, false, false, false, false, false, false, false, false, false, false, false] rfl rfl (take_ofW HT_.out HW_.out (by kernel_rfl)) (fun _ _ _ h => h) (Or.inl ⟨by rfl, ?_⟩) hHeld ?_ ?_
              rotate_left
              · rintro w' ⟨s0_, s1_, s2_, s3_, s4_⟩
                go_simp
                with_reducible rfl
              rotate_left
              · simp only [Act.put, List.setIfInBounds_toArray, List.set_cons_zero, List.set_cons_succ, i64_w, i32_w]
                rfl
              refine take_ (i := 7) (N := (some 89)) (v := ?_) (a' := ?_) #[true, true, true, true, false, false, true, true, false, false, false, false, false, false, false, false, false, false, false, false, false, false, false, false, false, false, false, false] rfl rfl (take_ofW HT_.out HW_.out (by kernel_rfl)) (fun _ _ _ h => h) (Or.inl ⟨by rfl, ?_⟩) hHeld ?_ ?_
              rotate_left
              · rintro w' ⟨s0_, s1_, s2_, s3_, s4_⟩
                go_simp
                with_reducible rfl
              rotate_left
              · simp only [Act.put, List.setIfInBounds_toArray, List.set_cons_zero, List.set_cons_succ, i64_w, i32_w]
                rfl
              refine take_ (i := 8) (N := (some 90)) (v := ?_) (a' := ?_) #[true, true, true, true, false, false, true, true, true, false, false, false, false, false, false, false, false, false, false, false, false, false, false, false, false, false, false, false] rfl rfl (take_ofW HT_.out HW_.out (by kernel_rfl)) (fun _ _ _ h => h) (Or.inl ⟨by rfl, ?_⟩) hHeld ?_ ?_
              rotate_left
              · rintro w' ⟨s0_, s1_, s2_, s3_, s4_⟩
                go_simp
                with_reducible rfl
              rotate_left
              · simp only [Act.put, List.setIfInBounds_toArray, List.set_cons_zero, List.set_cons_succ, i64_w, i32_w]
                rfl
              refine take_ (i := 9) (N := (some 91)) (v := ?_) (a' := ?_) #[true, true, true, true, false, false, true, true, true, true, false, false, false, false, false, false, false, false, false, false, false, false, false, false, false, false, false, false] rfl rfl (take_ofW HT_.out HW_.out (by kernel_rfl)) (fun _ _ _ h => h) (Or.inl ⟨by rfl, ?_⟩) hHeld ?_ ?_
              rotate_left
              · rintro w' ⟨s0_, s1_, s2_, s3_, s4_⟩
                go_simp
                with_reducible rfl
              rotate_left
              · simp only [Act.put, List.setIfInBounds_toArray, List.set_cons_zero, List.set_cons_succ, i64_w, i32_w]
                rfl
              refine take_ (i := 10) (N := (some 92)) (v := ?_) (a' := ?_) #[true, true, true, true, false, false, true, true, true, true, true, false, false, false, false, false, false, false, false, false, false, false, false, false, false, false, false, false] rfl rfl (take_ofW HT_.out HW_.out (by kernel_rfl)) (fun _ _ _ h => h) (Or.inl ⟨by rfl, ?_⟩) hHeld ?_ ?_
              rotate_left
              · rintro w' ⟨s0_, s1_, s2_, s3_, s4_⟩
                go_simp
                with_reducible rfl
              rotate_left
              · simp only [Act.put, List.setIfInBounds_toArray, List.set_cons_zero, List.set_cons_succ, i64_w, i32_w]
                rfl
              refine take_ (i := 11) (N := (some 93)) (v := ?_) (a' := ?_) #[true, true, true, true, false, false, true, true, true, true, true, true, false, false, false, false, false, false, false, false, false, false, false, false, false, false, false, false] rfl rfl (take_ofW HT_.out HW_.out (by kernel_rfl)) (fun _ _ _ h => h) (Or.inl ⟨by rfl, ?_⟩) hHeld ?_ ?_
              rotate_left
              · rintro w' ⟨s0_, s1_, s2_, s3_, s4_⟩
                go_simp
                with_reducible rfl
              rotate_left
              · simp only [Act.put, List.setIfInBounds_toArray, List.set_cons_zero, List.set_cons_succ, i64_w, i32_w]
                rfl
              refine take_ (i := 12) (N := (some 94)) (v := ?_) (a' := ?_) #[true, true, true, true, false, false, true, true, true, true, true, true, true, false, false, false, false, false, false, false, false, false, false, false, false, false, false, false] rfl rfl (take_ofW HT_.out HW_.out (by kernel_rfl)) (fun _ _ _ h => h) (Or.inl ⟨by rfl, ?_⟩) hHeld ?_ ?_
              rotate_left
              · rintro w' ⟨s0_, s1_, s2_, s3_, s4_⟩
                go_simp
                with_reducible rfl
              rotate_left
              · simp only [Act.put, List.setIfInBounds_toArray, List.set_cons_zero, List.set_cons_succ, i64_w, i32_w]
                rfl
              refine take_ (i := 13) (N := (some 95)) (v := ?_) (a' := ?_) #[true, true, true, true, false, false, true, true, true, true, true, true, true, true, false, false, false, false, false, false, false, false, false, false, false, false, false, false] rfl rfl (take_ofW HT_.out HW_.out (by kernel_rfl)) (fun _ _ _ h => h) (Or.inl ⟨by rfl, ?_⟩) hHeld ?_ ?_
              rotate_left
              · rintro w' ⟨s0_, s1_, s2_, s3_, s4_⟩
                go_simp
                with_reducible rfl
              rotate_left
              · simp only [Act.put, List.setIfInBounds_toArray, List.set_cons_zero, List.set_cons_succ, i64_w, i32_w]
                rfl
              refine take_ (i := 14) (N := (some 96)) (v := ?_) (a' := ?_) #[true, true, true, true, false, false, true, true, true, true, true, true, true, true, true, false, false, false, false, false, false, false, false, false, false, false, false, false] rfl rfl (take_ofW HT_.out HW_.out (by kernel_rfl)) (fun _ _ _ h => h) (Or.inl ⟨by rfl, ?_⟩) hHeld ?_ ?_
              rotate_left
              · rintro w' ⟨s0_, s1_, s2_, s3_, s4_⟩
                go_simp
                with_reducible rfl
              rotate_left
              · simp only [Act.put, List.setIfInBounds_toArray, List.set_cons_zero, List.set_cons_succ, i64_w, i32_w]
                rfl
              refine take_ (i := 15) (N := (some 97)) (v := ?_) (a' := ?_) #[true, true, true, true, false, false, true, true, true, true, true, true, true, true, true, true, false, false, false, false, false, false, false, false, false, false, false, false] rfl rfl (take_ofW HT_.out HW_.out (by kernel_rfl)) (fun _ _ _ h => h) (Or.inl ⟨by rfl, ?_⟩) hHeld ?_ ?_
              rotate_left
              · rintro w' ⟨s0_, s1_, s2_, s3_, s4_⟩
                go_simp
                with_reducible rfl
              rotate_left
              · simp only [Act.put, List.setIfInBounds_toArray, List.set_cons_zero, List.set_cons_succ, i64_w, i32_w]
                rfl
              refine take_ (i := 16) (N := (some 98)) (v := ?_) (a' := ?_) #[true, true, true, true, false, false, true, true, true, true, true, true, true, true, true, true, true, false, false, false, false, false, false, false, false, false, false, false] rfl rfl (take_ofW HT_.out HW_.out (by kernel_rfl)) (fun _ _ _ h => h) (Or.inl ⟨by rfl, ?_⟩) hHeld ?_ ?_
              rotate_left
              · rintro w' ⟨s0_, s1_, s2_, s3_, s4_⟩
                go_simp
                with_reducible rfl
              rotate_left
              · simp only [Act.put, List.setIfInBounds_toArray, List.set_cons_zero, List.set_cons_succ, i64_w, i32_w]
                rfl
              refine take_ (i := 17) (N := (some 99)) (v := ?_) (a' := ?_) #[true, true, true, true, false, false, true, true, true, true, true, true, true, true, true, true, true, true, false, false, false, false, false, false, false, false, false, false] rfl rfl (take_ofW HT_.out HW_.out (by kernel_rfl)) (fun _ _ _ h => h) (Or.inl ⟨by rfl, ?_⟩) hHeld ?_ ?_
              rotate_left
              · rintro w' ⟨s0_, s1_, s2_, s3_, s4_⟩
                go_simp
                with_reducible rfl
              rotate_left
              · simp only [Act.put, List.setIfInBounds_toArray, List.set_cons_zero, List.set_cons_succ, i64_w, i32_w]
                rfl
              refine take_ (i := 19) (N := (some 101)) (v := ?_) (a' := ?_) #[true, true, true, true, false, false, true, true, true, true, true, true, true, true, true, true, true, true, false, true, false, false, false, false, false, false, false, false] rfl rfl (take_ofW HT_.out HW_.out (by kernel_rfl)) (fun _ _ _ h => h) (Or.inl ⟨by rfl, ?_⟩) hHeld ?_ ?_
              rotate_left
              · rintro w' ⟨s0_, s1_, s2_, s3_, s4_⟩
                go_simp
                with_reducible rfl
              rotate_left
              · simp only [Act.put, List.setIfInBounds_toArray, List.set_cons_zero, List.set_cons_succ, i64_w, i32_w]
                rfl
              refine take_ (i := 20) (N := (some 102)) (v := ?_) (a' := ?_) #[true, true, true, true, false, false, true, true, true, true, true, true, true, true, true, true, true, true, false, true, true, false, false, false, false, false, false, false] rfl rfl (take_ofW HT_.out HW_.out (by kernel_rfl)) (fun _ _ _ h => h) (Or.inl ⟨by rfl, ?_⟩) hHeld ?_ ?_
              rotate_left
              · rintro w' ⟨s0_, s1_, s2_, s3_, s4_⟩
                go_simp
                with_reducible rfl
              rotate_left
              · simp only [Act.put, List.setIfInBounds_toArray, List.set_cons_zero, List.set_cons_succ, i64_w, i32_w]
                rfl
              refine take_ (i := 21) (N := (some 103)) (v := ?_) (a' := ?_) #[true, true, true, true, false, false, true, true, true, true, true, true, true, true, true, true, true, true, false, true, true, true, false, false, false, false, false, false] rfl rfl (take_ofW HT_.out HW_.out (by kernel_rfl)) (fun _ _ _ h => h) (Or.inl ⟨by rfl, ?_⟩) hHeld ?_ ?_
              rotate_left
              · rintro w' ⟨s0_, s1_, s2_, s3_, s4_⟩
                go_simp
                with_reducible rfl
              rotate_left
              · simp only [Act.put, List.setIfInBounds_toArray, List.set_cons_zero, List.set_cons_succ, i64_w, i32_w]
                rfl
              refine take_ (i := 23) (N := (some 105)) (v := ?_) (a' := ?_) #[true, true, true, true, false, false, true, true, true, true, true, true, true, true, true, true, true, true, false, true, true, true, false, true, false, false, false, false] rfl rfl (take_ofW HT_.out HW_.out (by kernel_rfl)) (fun _ _ _ h => h) (Or.inl ⟨by rfl, ?_⟩) hHeld ?_ ?_
              rotate_left
              · rintro w' ⟨s0_, s1_, s2_, s3_, s4_⟩
                go_simp
                with_reducible rfl
              rotate_left
              · simp only [Act.put, List.setIfInBounds_toArray, List.set_cons_zero, List.set_cons_succ, i64_w, i32_w]
                rfl
              refine take_ (i := 24) (N := (some 106)) (v := ?_) (a' := ?_) #[true, true, true, true, false, false, true, true, true, true, true, true, true, true, true, true, true, true, false, true, true, true, false, true, true, false, false, false] rfl rfl (take_ofW HT_.out HW_.out (by kernel_rfl)) (fun _ _ _ h => h) (Or.inl ⟨by rfl, ?_⟩) hHeld ?_ ?_
              rotate_left
              · rintro w' ⟨s0_, s1_, s2_, s3_, s4_⟩
                go_simp
                with_reducible rfl
              rotate_left
              · simp only [Act.put, List.setIfInBounds_toArray, List.set_cons_zero, List.set_cons_succ, i64_w, i32_w]
                rfl
              refine take_ (i := 25) (N := (some 107)) (v := ?_) (a' := ?_) #[true, true, true, true, false, false, true, true, true, true, true, true, true, true, true, true, true, true, false, true, true, true, false, true, true, true, false, false] rfl rfl (take_ofW HT_.out HW_.out (by kernel_rfl)) (fun _ _ _ h => h) (Or.inl ⟨by rfl, ?_⟩) hHeld ?_ ?_
              rotate_left
              · rintro w' ⟨s0_, s1_, s2_, s3_, s4_⟩
                go_simp
                with_reducible rfl
              rotate_left
              · simp only [Act.put, List.setIfInBounds_toArray, List.set_cons_zero, List.set_cons_succ, i64_w, i32_w]
                rfl
              refine one_ (i := 4) (N := (some 86)) #[true, true, true, true, true, false, true, true, true, true, true, true, true, true, true, true, true, true, false, true, true, true, false, true, true, true, false, false] rfl rfl (one_of HT_.out (by kernel_rfl)) (by decide) (fun K hK => ?_)
              refine goes_ Try.func106 (by kernel_rfl) rfl #[.int .u32 (e.toNat : Int), .int .i64 6, .int .i64 11, .int .i64 25] (by rfl) rfl rfl (by first | rfl | (simp only [List.map_toArray, List.map_cons, List.map_nil]; try rfl)) ?_
              (with_reducible refine (rf_mix6 e _).mono ?_)
              rintro e_ w_ ⟨rfl, hb⟩
              have HZn := Aside0.mk (below_step (by repeat (first | exact HZ.out | apply below_drew | apply pw_below_drewN)) hb)
              clear HZ hb
              have HZ := HZn
              clear HZn
              refine ⟨_, rfl, ?_⟩
              refine hK.out _ _ ⟨(C8.out _ (by repeat (first | exact HZ.out | apply below_drew | apply pw_below_drewN))).2.2.2.2.2.2.2, (C8.out _ (by repeat (first | exact HZ.out | apply below_drew | apply pw_below_drewN))).2.2.2.2.2.1, (C8.out _ (by repeat (first | exact HZ.out | apply below_drew | apply pw_below_drewN))).2.2.2.2.2.2.1, CK.out _ (by repeat (first | exact HZ.out | apply below_drew | apply pw_below_drewN)), CW.out _ (by repeat (first | exact HZ.out | apply below_drew | apply pw_below_drewN))⟩ (fun hHeld => ?_)
              clear hK K
              refine norm_ (a' := ?_) ?_ ?_
              rotate_left
              · show Act.put _ (some 86) _ = _
                simp only [Act.put, List.setIfInBounds_toArray, List.set_cons_zero, List.set_cons_succ, i64_w, i32_w]
                rfl
              refine take_ (i := 5) (N := (some 87)) (v := ?_) (a' := ?_) #[true, true, true, true, true, true, true, true, true, true, true, true, true, true, true, true, true, true, false, true, true, true, false, true, true, true, false, false] rfl rfl (take_ofW HT_.out HW_.out (by kernel_rfl)) (fun _ _ _ h => h) (Or.inl ⟨by rfl, ?_⟩) hHeld ?_ ?_
              rotate_left
              · rintro w' ⟨s0_, s1_, s2_, s3_, s4_⟩
                go_simp
                with_reducible rfl
              rotate_left
              · simp only [Act.put, List.setIfInBounds_toArray, List.set_cons_zero, List.set_cons_succ, i64_w, i32_w]
                rfl
              refine take_ (i := 18) (N := (some 100)) (v := ?_) (a' := ?_) #[true, true, true, true, true, true, true, true, true, true, true, true, true, true, true, true, true, true, true, true, true, true, false, true, true, true, false, false] rfl rfl (take_ofW HT_.out HW_.out (by kernel_rfl)) (fun _ _ _ h => h) (Or.inl ⟨by rfl, ?_⟩) hHeld ?_ ?_
              rotate_left
              · rintro w' ⟨s0_, s1_, s2_, s3_, s4_⟩
                go_simp
                with_reducible rfl
              rotate_left
              · simp only [Act.put, List.setIfInBounds_toArray, List.set_cons_zero, List.set_cons_succ, i64_w, i32_w]
                rfl
              refine take_ (i := 22) (N := (some 104)) (v := ?_) (a' := ?_) #[true, true, true, true, true, true, true, true, true, true, true, true, true, true, true, true, true, true, true, true, true, true, true, true, true, true, false, false] rfl rfl (take_ofW HT_.out HW_.out (by kernel_rfl)) (fun _ _ _ h => h) (Or.inl ⟨by rfl, ?_⟩) hHeld ?_ ?_
              rotate_left
              · rintro w' ⟨s0_, s1_, s2_, s3_, s4_⟩
                go_simp
                with_reducible rfl
              rotate_left
              · simp only [Act.put, List.setIfInBounds_toArray, List.set_cons_zero, List.set_cons_succ, i64_w, i32_w]
                rfl
              refine take_ (i := 26) (N := (some 108)) (v := ?_) (a' := ?_) #[true, true, true, true, true, true, true, true, true, true, true, true, true, true, true, true, true, true, true, true, true, true, true, true, true, true, true, false] rfl rfl (take_ofW HT_.out HW_.out (by kernel_rfl)) (fun _ _ _ h => h) (Or.inl ⟨by rfl, ?_⟩) hHeld ?_ ?_
              rotate_left
              · rintro w' ⟨s0_, s1_, s2_, s3_, s4_⟩
                go_simp
                with_reducible rfl
              rotate_left
              · simp only [Act.put, List.setIfInBounds_toArray, List.set_cons_zero, List.set_cons_succ, i64_w, i32_w]
                rfl
              refine take_ (i := 27) (N := (some 16)) (v := ?_) (a' := ?_) #[true, true, true, true, true, true, true, true, true, true, true, true, true, true, true, true, true, true, true, true, true, true, true, true, true, true, true, true] rfl rfl (take_ofW HT_.out HW_.out (by kernel_rfl)) (fun _ _ _ h => h) (Or.inl ⟨by rfl, ?_⟩) hHeld ?_ ?_
              rotate_left
              · rintro w' ⟨s0_, s1_, s2_, s3_, s4_⟩
                go_simp
                with_reducible rfl
              rotate_left
              · simp only [Act.put, List.setIfInBounds_toArray, List.set_cons_zero, List.set_cons_succ, i64_w, i32_w]
                rfl
              refine done_ (done_of HT_.out (by kernel_rfl)) ?_
              go_wp2
              refine start_ (n := 23) (S := fun w' => w'.cell? ⟨gb, 1, none⟩ = some (.int .u32 (b.toNat : Int)) ∧ w'.cell? ⟨gb, 2, none⟩ = some (.int .u32 (c.toNat : Int))) (ds := []) #[false, false, false, false, false, false, false, false, false, false, false, false, false, false, false, false, false, false, false, false, false, false, false] (by kernel_rfl) rfl rfl ⟨(C8.out _ (by repeat (first | exact HZ.out | apply below_drew | apply pw_below_drewN))).2.1, (C8.out _ (by repeat (first | exact HZ.out | apply below_drew | apply pw_below_drewN))).2.2.1⟩ (fun hHeld => ?_); refine with_tabW rb21.tab21 rb21.bits21 (fun HT_ HW_ => ?_)
              refine take_ (i := 0) (N := (some 109)) (v := ?_) (a' := ?_) #[true, false, false, false, false, false, false, false, false, false, false, false, false, false, false, false, false, false, false, false, false, false, false] rfl rfl (take_ofW HT_.out HW_.out (by kernel_rfl)) (fun _ _ _ h => h) (Or.inl ⟨by rfl, ?_⟩) hHeld ?_ ?_
              rotate_left
              · rintro w' ⟨s0_, s1_⟩
                go_simp
                with_reducible rfl
              rotate_left
              · simp only [Act.put, List.setIfInBounds_toArray, List.set_cons_zero, List.set_cons_succ, i64_w, i32_w]
                rfl
              refine take_ (i := 2) (N := (some 111)) (v := ?_) (a' := ?_) #[true, false, true, false, false, false, false, false, false, false, false, false, false, false, false, false, false, false, false, false, false, false, false] rfl rfl (take_ofW HT_.out HW_.out (by kernel_rfl)) (fun _ _ _ h => h) (Or.inl ⟨by rfl, ?_⟩) hHeld ?_ ?_
              rotate_left
              · rintro w' ⟨s0_, s1_⟩
                go_simp
                with_reducible rfl
              rotate_left
              · simp only [Act.put, List.setIfInBounds_toArray, List.set_cons_zero, List.set_cons_succ, i64_w, i32_w]
                rfl
              refine take_ (i := 3) (N := (some 112)) (v := ?_) (a' := ?_) #[true, false, true, true, false, false, false, false, false, false, false, false, false, false, false, false, false, false, false, false, false, false, false] rfl rfl (take_ofW HT_.out HW_.out (by kernel_rfl)) (fun _ _ _ h => h) (Or.inl ⟨by rfl, ?_⟩) hHeld ?_ ?_
              rotate_left
              · rintro w' ⟨s0_, s1_⟩
                go_simp
                with_reducible rfl
              rotate_left
              · simp only [Act.put, List.setIfInBounds_toArray, List.set_cons_zero, List.set_cons_succ, i64_w, i32_w]
                rfl
              refine take_ (i := 4) (N := (some 113)) (v := ?_) (a' := ?_) #[true, false, true, true, true, false, false, false, false, false, false, false, false, false, false, false, false, false, false, false, false, false, false] rfl rfl (take_ofW HT_.out HW_.out (by kernel_rfl)) (fun _ _ _ h => h) (Or.inl ⟨by rfl, ?_⟩) hHeld ?_ ?_
              rotate_left
              · rintro w' ⟨s0_, s1_⟩
                go_simp
                with_reducible rfl
              rotate_left
              · simp only [Act.put, List.setIfInBounds_toArray, List.set_cons_zero, List.set_cons_succ, i64_w, i32_w]
                rfl
              refine take_ (i := 5) (N := (some 114)) (v := ?_) (a' := ?_) #[true, false, true, true, true, true, false, false, false, false, false, false, false, false, false, false, false, false, false, false, false, false, false] rfl rfl (take_ofW HT_.out HW_.out (by kernel_rfl)) (fun _ _ _ h => h) (Or.inl ⟨by rfl, ?_⟩) hHeld ?_ ?_
              rotate_left
              · rintro w' ⟨s0_, s1_⟩
                go_simp
                with_reducible rfl
              rotate_left
              · simp only [Act.put, List.setIfInBounds_toArray, List.set_cons_zero, List.set_cons_succ, i64_w, i32_w]
                rfl
              refine take_ (i := 6) (N := (some 115)) (v := ?_) (a' := ?_) #[true, false, true, true, true, true, true, false, false, false, false, false, false, false, false, false, false, false, false, false, false, false, false] rfl rfl (take_ofW HT_.out HW_.out (by kernel_rfl)) (fun _ _ _ h => h) (Or.inl ⟨by rfl, ?_⟩) hHeld ?_ ?_
              rotate_left
              · rintro w' ⟨s0_, s1_⟩
                go_simp
                with_reducible rfl
              rotate_left
              · simp only [Act.put, List.setIfInBounds_toArray, List.set_cons_zero, List.set_cons_succ, i64_w, i32_w]
                rfl
              refine take_ (i := 7) (N := (some 116)) (v := ?_) (a' := ?_) #[true, false, true, true, true, true, true, true, false, false, false, false, false, false, false, false, false, false, false, false, false, false, false] rfl rfl (take_ofW HT_.out HW_.out (by kernel_rfl)) (fun _ _ _ h => h) (Or.inl ⟨by rfl, ?_⟩) hHeld ?_ ?_
              rotate_left
              · rintro w' ⟨s0_, s1_⟩
                go_simp
                with_reducible rfl
              rotate_left
              · simp only [Act.put, List.setIfInBounds_toArray, List.set_cons_zero, List.set_cons_succ, i64_w, i32_w]
                rfl
              refine take_ (i := 8) (N := (some 117)) (v := ?_) (a' := ?_) #[true, false, true, true, true, true, true, true, true, false, false, false, false, false, false, false, false, false, false, false, false, false, false] rfl rfl (take_ofW HT_.out HW_.out (by kernel_rfl)) (fun _ _ _ h => h) (Or.inl ⟨by rfl, ?_⟩) hHeld ?_ ?_
              rotate_left
              · rintro w' ⟨s0_, s1_⟩
                go_simp
                with_reducible rfl
              rotate_left
              · simp only [Act.put, List.setIfInBounds_toArray, List.set_cons_zero, List.set_cons_succ, i64_w, i32_w]
                rfl
              refine take_ (i := 9) (N := (some 118)) (v := ?_) (a' := ?_) #[true, false, true, true, true, true, true, true, true, true, false, false, false, false, false, false, false, false, false, false, false, false, false] rfl rfl (take_ofW HT_.out HW_.out (by kernel_rfl)) (fun _ _ _ h => h) (Or.inl ⟨by rfl, ?_⟩) hHeld ?_ ?_
              rotate_left
              · rintro w' ⟨s0_, s1_⟩
                go_simp
                with_reducible rfl
              rotate_left
              · simp only [Act.put, List.setIfInBounds_toArray, List.set_cons_zero, List.set_cons_succ, i64_w, i32_w]
                rfl
              refine take_ (i := 10) (N := (some 119)) (v := ?_) (a' := ?_) #[true, false, true, true, true, true, true, true, true, true, true, false, false, false, false, false, false, false, false, false, false, false, false] rfl rfl (take_ofW HT_.out HW_.out (by kernel_rfl)) (fun _ _ _ h => h) (Or.inl ⟨by rfl, ?_⟩) hHeld ?_ ?_
              rotate_left
              · rintro w' ⟨s0_, s1_⟩
                go_simp
                with_reducible rfl
              rotate_left
              · simp only [Act.put, List.setIfInBounds_toArray, List.set_cons_zero, List.set_cons_succ, i64_w, i32_w]
                rfl
              refine take_ (i := 11) (N := (some 120)) (v := ?_) (a' := ?_) #[true, false, true, true, true, true, true, true, true, true, true, true, false, false, false, false, false, false, false, false, false, false, false] rfl rfl (take_ofW HT_.out HW_.out (by kernel_rfl)) (fun _ _ _ h => h) (Or.inl ⟨by rfl, ?_⟩) hHeld ?_ ?_
              rotate_left
              · rintro w' ⟨s0_, s1_⟩
                go_simp
                with_reducible rfl
              rotate_left
              · simp only [Act.put, List.setIfInBounds_toArray, List.set_cons_zero, List.set_cons_succ, i64_w, i32_w]
                rfl
              refine take_ (i := 12) (N := (some 121)) (v := ?_) (a' := ?_) #[true, false, true, true, true, true, true, true, true, true, true, true, true, false, false, false, false, false, false, false, false, false, false] rfl rfl (take_ofW HT_.out HW_.out (by kernel_rfl)) (fun _ _ _ h => h) (Or.inl ⟨by rfl, ?_⟩) hHeld ?_ ?_
              rotate_left
              · rintro w' ⟨s0_, s1_⟩
                go_simp
                with_reducible rfl
              rotate_left
              · simp only [Act.put, List.setIfInBounds_toArray, List.set_cons_zero, List.set_cons_succ, i64_w, i32_w]
                rfl
              refine take_ (i := 13) (N := (some 122)) (v := ?_) (a' := ?_) #[true, false, true, true, true, true, true, true, true, true, true, true, true, true, false, false, false, false, false, false, false, false, false] rfl rfl (take_ofW HT_.out HW_.out (by kernel_rfl)) (fun _ _ _ h => h) (Or.inl ⟨by rfl, ?_⟩) hHeld ?_ ?_
              rotate_left
              · rintro w' ⟨s0_, s1_⟩
                go_simp
                with_reducible rfl
              rotate_left
              · simp only [Act.put, List.setIfInBounds_toArray, List.set_cons_zero, List.set_cons_succ, i64_w, i32_w]
                rfl
              refine take_ (i := 14) (N := (some 123)) (v := ?_) (a' := ?_) #[true, false, true, true, true, true, true, true, true, true, true, true, true, true, true, false, false, false, false, false, false, false, false] rfl rfl (take_ofW HT_.out HW_.out (by kernel_rfl)) (fun _ _ _ h => h) (Or.inl ⟨by rfl, ?_⟩) hHeld ?_ ?_
              rotate_left
              · rintro w' ⟨s0_, s1_⟩
                go_simp
                with_reducible rfl
              rotate_left
              · simp only [Act.put, List.setIfInBounds_toArray, List.set_cons_zero, List.set_cons_succ, i64_w, i32_w]
                rfl
              refine take_ (i := 15) (N := (some 124)) (v := ?_) (a' := ?_) #[true, false, true, true, true, true, true, true, true, true, true, true, true, true, true, true, false, false, false, false, false, false, false] rfl rfl (take_ofW HT_.out HW_.out (by kernel_rfl)) (fun _ _ _ h => h) (Or.inl ⟨by rfl, ?_⟩) hHeld ?_ ?_
              rotate_left
              · rintro w' ⟨s0_, s1_⟩
                go_simp
                with_reducible rfl
              rotate_left
              · simp only [Act.put, List.setIfInBounds_toArray, List.set_cons_zero, List.set_cons_succ, i64_w, i32_w]
                rfl
              refine take_ (i := 16) (N := (some 125)) (v := ?_) (a' := ?_) #[true, false, true, true, true, true, true, true, true, true, true, true, true, true, true, true, true, false, false, false, false, false, false] rfl rfl (take_ofW HT_.out HW_.out (by kernel_rfl)) (fun _ _ _ h => h) (Or.inl ⟨by rfl, ?_⟩) hHeld ?_ ?_
              rotate_left
              · rintro w' ⟨s0_, s1_⟩
                go_simp
                with_reducible rfl
              rotate_left
              · simp only [Act.put, List.setIfInBounds_toArray, List.set_cons_zero, List.set_cons_succ, i64_w, i32_w]
                rfl
              refine take_ (i := 17) (N := (some 126)) (v := ?_) (a' := ?_) #[true, false, true, true, true, true, true, true, true, true, true, true, true, true, true, true, true, true, false, false, false, false, false] rfl rfl (take_ofW HT_.out HW_.out (by kernel_rfl)) (fun _ _ _ h => h) (Or.inl ⟨by rfl, ?_⟩) hHeld ?_ ?_
              rotate_left
              · rintro w' ⟨s0_, s1_⟩
                go_simp
                with_reducible rfl
              rotate_left
              · simp only [Act.put, List.setIfInBounds_toArray, List.set_cons_zero, List.set_cons_succ, i64_w, i32_w]
                rfl
              refine take_ (i := 18) (N := (some 127)) (v := ?_) (a' := ?_) #[true, false, true, true, true, true, true, true, true, true, true, true, true, true, true, true, true, true, true, false, false, false, false] rfl rfl (take_ofW HT_.out HW_.out (by kernel_rfl)) (fun _ _ _ h => h) (Or.inl ⟨by rfl, ?_⟩) hHeld ?_ ?_
              rotate_left
              · rintro w' ⟨s0_, s1_⟩
                go_simp
                with_reducible rfl
              rotate_left
              · simp only [Act.put, List.setIfInBounds_toArray, List.set_cons_zero, List.set_cons_succ, i64_w, i32_w]
                rfl
              refine take_ (i := 19) (N := (some 128)) (v := ?_) (a' := ?_) #[true, false, true, true, true, true, true, true, true, true, true, true, true, true, true, true, true, true, true, true, false, false, false] rfl rfl (take_ofW HT_.out HW_.out (by kernel_rfl)) (fun _ _ _ h => h) (Or.inl ⟨by rfl, ?_⟩) hHeld ?_ ?_
              rotate_left
              · rintro w' ⟨s0_, s1_⟩
                go_simp
                with_reducible rfl
              rotate_left
              · simp only [Act.put, List.setIfInBounds_toArray, List.set_cons_zero, List.set_cons_succ, i64_w, i32_w]
                rfl
              refine take_ (i := 20) (N := (some 129)) (v := ?_) (a' := ?_) #[true, false, true, true, true, true, true, true, true, true, true, true, true, true, true, true, true, true, true, true, true, false, false] rfl rfl (take_ofW HT_.out HW_.out (by kernel_rfl)) (fun _ _ _ h => h) (Or.inl ⟨by rfl, ?_⟩) hHeld ?_ ?_
              rotate_left
              · rintro w' ⟨s0_, s1_⟩
                go_simp
                with_reducible rfl
              rotate_left
              · simp only [Act.put, List.setIfInBounds_toArray, List.set_cons_zero, List.set_cons_succ, i64_w, i32_w]
                rfl
              refine one_ (i := 1) (N := (some 110)) #[true, true, true, true, true, true, true, true, true, true, true, true, true, true, true, true, true, true, true, true, true, false, false] rfl rfl (one_of HT_.out (by kernel_rfl)) (by decide) (fun K hK => ?_)
              refine goes_ Try.func106 (by kernel_rfl) rfl #[.int .u32 (a.toNat : Int), .int .i64 2, .int .i64 13, .int .i64 22] (by rfl) rfl rfl (by first | rfl | (simp only [List.map_toArray, List.map_cons, List.map_nil]; try rfl)) ?_
              (with_reducible refine (rf_mix2 a _).mono ?_)
              rintro e_ w_ ⟨rfl, hb⟩
              have HZn := Aside0.mk (below_step (by repeat (first | exact HZ.out | apply below_drew | apply pw_below_drewN)) hb)
              clear HZ hb
              have HZ := HZn
              clear HZn
              refine ⟨_, rfl, ?_⟩
              refine hK.out _ _ ⟨(C8.out _ (by repeat (first | exact HZ.out | apply below_drew | apply pw_below_drewN))).2.1, (C8.out _ (by repeat (first | exact HZ.out | apply below_drew | apply pw_below_drewN))).2.2.1⟩ (fun hHeld => ?_)
              clear hK K
              refine norm_ (a' := ?_) ?_ ?_
              rotate_left
              · show Act.put _ (some 110) _ = _
                simp only [Act.put, List.setIfInBounds_toArray, List.set_cons_zero, List.set_cons_succ, i64_w, i32_w]
                rfl
              refine take_ (i := 21) (N := (some 130)) (v := ?_) (a' := ?_) #[true, true, true, true, true, true, true, true, true, true, true, true, true, true, true, true, true, true, true, true, true, true, false] rfl rfl (take_ofW HT_.out HW_.out (by kernel_rfl)) (fun _ _ _ h => h) (Or.inl ⟨by rfl, ?_⟩) hHeld ?_ ?_
              rotate_left
              · rintro w' ⟨s0_, s1_⟩
                go_simp
                with_reducible rfl
              rotate_left
              · simp only [Act.put, List.setIfInBounds_toArray, List.set_cons_zero, List.set_cons_succ, i64_w, i32_w]
                rfl
              refine take_ (i := 22) (N := (some 17)) (v := ?_) (a' := ?_) #[true, true, true, true, true, true, true, true, true, true, true, true, true, true, true, true, true, true, true, true, true, true, true] rfl rfl (take_ofW HT_.out HW_.out (by kernel_rfl)) (fun _ _ _ h => h) (Or.inl ⟨by rfl, ?_⟩) hHeld ?_ ?_
              rotate_left
              · rintro w' ⟨s0_, s1_⟩
                go_simp
                with_reducible rfl
              rotate_left
              · simp only [Act.put, List.setIfInBounds_toArray, List.set_cons_zero, List.set_cons_succ, i64_w, i32_w]
                rfl
              refine done_ (done_of HT_.out (by kernel_rfl)) ?_
              go_wp2
              rw [HT1.out, HT2.out]
              clear HT1 HT2
              refine start_ (n := 24) (S := fun w' => w'.cell? ⟨gb, 1, none⟩ = some (.int .u32 (b.toNat : Int)) ∧ w'.cell? ⟨gb, 2, none⟩ = some (.int .u32 (c.toNat : Int)) ∧ w'.cell? ⟨gb, 3, none⟩ = some (.int .u32 (d.toNat : Int)) ∧ w'.cell? ⟨gb, 5, none⟩ = some (.int .u32 (f.toNat : Int)) ∧ w'.cell? ⟨gb, 6, none⟩ = some (.int .u32 (g.toNat : Int))) (ds := []) #[false, false, false, false, false, false, false, false, false, false, false, false, false, false, false, false, false, false, false, false, false, false, false, false] (by kernel_rfl) rfl rfl ⟨(C8.out _ (by repeat (first | exact HZ.out | apply below_drew | apply below_alloc | apply pw_below_drewN))).2.1, (C8.out _ (by repeat (first | exact HZ.out | apply below_drew | apply below_alloc | apply pw_below_drewN))).2.2.1, (C8.out _ (by repeat (first | exact HZ.out | apply below_drew | apply below_alloc | apply pw_below_drewN))).2.2.2.1, (C8.out _ (by repeat (first | exact HZ.out | apply below_drew | apply below_alloc | apply pw_below_drewN))).2.2.2.2.2.1, (C8.out _ (by repeat (first | exact HZ.out | apply below_drew | apply below_alloc | apply pw_below_drewN))).2.2.2.2.2.2.1⟩ (fun hHeld => ?_); refine with_tabW rb22.tab22 rb22.bits22 (fun HT_ HW_ => ?_)
              refine take_ (i := 0) (N := (some 131)) (v := ?_) (a' := ?_) #[true, false, false, false, false, false, false, false, false, false, false, false, false, false, false, false, false, false, false, false, false, false, false, false] rfl rfl (take_ofW HT_.out HW_.out (by kernel_rfl)) (fun _ _ _ h => h) (Or.inl ⟨by rfl, ?_⟩) hHeld ?_ ?_
              rotate_left
              · rintro w' ⟨s0_, s1_, s2_, s3_, s4_⟩
                go_simp
                with_reducible rfl
              rotate_left
              · simp only [Act.put, List.setIfInBounds_toArray, List.set_cons_zero, List.set_cons_succ, i64_w, i32_w]
                rfl
              refine take_ (i := 1) (N := (some 132)) (v := ?_) (a' := ?_) #[true, true, false, false, false, false, false, false, false, false, false, false, false, false, false, false, false, false, false, false, false, false, false, false] rfl rfl (take_ofW HT_.out HW_.out (by kernel_rfl)) (fun _ _ _ h => h) (Or.inl ⟨by rfl, ?_⟩) hHeld ?_ ?_
              rotate_left
              · rintro w' ⟨s0_, s1_, s2_, s3_, s4_⟩
                go_simp
                with_reducible rfl
              rotate_left
              · simp only [Act.put, List.setIfInBounds_toArray, List.set_cons_zero, List.set_cons_succ, i64_w, i32_w]
                rfl
              refine take_ (i := 2) (N := (some 133)) (v := ?_) (a' := ?_) #[true, true, true, false, false, false, false, false, false, false, false, false, false, false, false, false, false, false, false, false, false, false, false, false] rfl rfl (take_ofW HT_.out HW_.out (by kernel_rfl)) (fun _ _ _ h => h) (Or.inl ⟨by rfl, ?_⟩) hHeld ?_ ?_
              rotate_left
              · rintro w' ⟨s0_, s1_, s2_, s3_, s4_⟩
                go_simp
                with_reducible rfl
              rotate_left
              · simp only [Act.put, List.setIfInBounds_toArray, List.set_cons_zero, List.set_cons_succ, i64_w, i32_w]
                rfl
              refine take_ (i := 3) (N := (some 134)) (v := ?_) (a' := ?_) #[true, true, true, true, false, false, false, false, false, false, false, false, false, false, false, false, false, false, false, false, false, false, false, false] rfl rfl (take_ofW HT_.out HW_.out (by kernel_rfl)) (fun _ _ _ h => h) (Or.inl ⟨by rfl, ?_⟩) hHeld ?_ ?_
              rotate_left
              · rintro w' ⟨s0_, s1_, s2_, s3_, s4_⟩
                go_simp
                with_reducible rfl
              rotate_left
              · simp only [Act.put, List.setIfInBounds_toArray, List.set_cons_zero, List.set_cons_succ, i64_w, i32_w]
                rfl
              refine take_ (i := 4) (N := (some 135)) (v := ?_) (a' := ?_) #[true, true, true, true, true, false, false, false, false, false, false, false, false, false, false, false, false, false, false, false, false, false, false, false] rfl rfl (take_ofW HT_.out HW_.out (by kernel_rfl)) (fun _ _ _ h => h) (Or.inl ⟨by rfl, ?_⟩) hHeld ?_ ?_
              rotate_left
              · rintro w' ⟨s0_, s1_, s2_, s3_, s4_⟩
                go_simp
                with_reducible rfl
              rotate_left
              · simp only [Act.put, List.setIfInBounds_toArray, List.set_cons_zero, List.set_cons_succ, i64_w, i32_w]
                rfl
              refine take_ (i := 5) (N := (some 136)) (v := ?_) (a' := ?_) #[true, true, true, true, true, true, false, false, false, false, false, false, false, false, false, false, false, false, false, false, false, false, false, false] rfl rfl (take_ofW HT_.out HW_.out (by kernel_rfl)) (fun _ _ _ h => h) (Or.inl ⟨by rfl, ?_⟩) hHeld ?_ ?_
              rotate_left
              · rintro w' ⟨s0_, s1_, s2_, s3_, s4_⟩
                go_simp
                with_reducible rfl
              rotate_left
              · simp only [Act.put, List.setIfInBounds_toArray, List.set_cons_zero, List.set_cons_succ, i64_w, i32_w]
                rfl
              refine take_ (i := 6) (N := (some 137)) (v := ?_) (a' := ?_) #[true, true, true, true, true, true, true, false, false, false, false, false, false, false, false, false, false, false, false, false, false, false, false, false] rfl rfl (take_ofW HT_.out HW_.out (by kernel_rfl)) (fun _ _ _ h => h) (Or.inl ⟨by rfl, ?_⟩) hHeld ?_ ?_
              rotate_left
              · rintro w' ⟨s0_, s1_, s2_, s3_, s4_⟩
                go_simp
                with_reducible rfl
              rotate_left
              · simp only [Act.put, List.setIfInBounds_toArray, List.set_cons_zero, List.set_cons_succ, i64_w, i32_w]
                rfl
              refine take_ (i := 7) (N := (some 138)) (v := ?_) (a' := ?_) #[true, true, true, true, true, true, true, true, false, false, false, false, false, false, false, false, false, false, false, false, false, false, false, false] rfl rfl (take_ofW HT_.out HW_.out (by kernel_rfl)) (fun _ _ _ h => h) (Or.inl ⟨by rfl, ?_⟩) hHeld ?_ ?_
              rotate_left
              · rintro w' ⟨s0_, s1_, s2_, s3_, s4_⟩
                go_simp
                with_reducible rfl
              rotate_left
              · simp only [Act.put, List.setIfInBounds_toArray, List.set_cons_zero, List.set_cons_succ, i64_w, i32_w]
                rfl
              refine take_ (i := 8) (N := (some 139)) (v := ?_) (a' := ?_) #[true, true, true, true, true, true, true, true, true, false, false, false, false, false, false, false, false, false, false, false, false, false, false, false] rfl rfl (take_ofW HT_.out HW_.out (by kernel_rfl)) (fun _ _ _ h => h) (Or.inl ⟨by rfl, ?_⟩) hHeld ?_ ?_
              rotate_left
              · rintro w' ⟨s0_, s1_, s2_, s3_, s4_⟩
                go_simp
                with_reducible rfl
              rotate_left
              · simp only [Act.put, List.setIfInBounds_toArray, List.set_cons_zero, List.set_cons_succ, i64_w, i32_w]
                rfl
              refine take_ (i := 9) (N := (some 140)) (v := ?_) (a' := ?_) #[true, true, true, true, true, true, true, true, true, true, false, false, false, false, false, false, false, false, false, false, false, false, false, false] rfl rfl (take_ofW HT_.out HW_.out (by kernel_rfl)) (fun _ _ _ h => h) (Or.inl ⟨by rfl, ?_⟩) hHeld ?_ ?_
              rotate_left
              · rintro w' ⟨s0_, s1_, s2_, s3_, s4_⟩
                go_simp
                with_reducible rfl
              rotate_left
              · simp only [Act.put, List.setIfInBounds_toArray, List.set_cons_zero, List.set_cons_succ, i64_w, i32_w]
                rfl
              refine take_ (i := 10) (N := (some 141)) (v := ?_) (a' := ?_) #[true, true, true, true, true, true, true, true, true, true, true, false, false, false, false, false, false, false, false, false, false, false, false, false] rfl rfl (take_ofW HT_.out HW_.out (by kernel_rfl)) (fun _ _ _ h => h) (Or.inl ⟨by rfl, ?_⟩) hHeld ?_ ?_
              rotate_left
              · rintro w' ⟨s0_, s1_, s2_, s3_, s4_⟩
                go_simp
                with_reducible rfl
              rotate_left
              · simp only [Act.put, List.setIfInBounds_toArray, List.set_cons_zero, List.set_cons_succ, i64_w, i32_w]
                rfl
              refine take_ (i := 11) (N := (some 142)) (v := ?_) (a' := ?_) #[true, true, true, true, true, true, true, true, true, true, true, true, false, false, false, false, false, false, false, false, false, false, false, false] rfl rfl (take_ofW HT_.out HW_.out (by kernel_rfl)) (fun _ _ _ h => h) (Or.inl ⟨by rfl, ?_⟩) hHeld ?_ ?_
              rotate_left
              · rintro w' ⟨s0_, s1_, s2_, s3_, s4_⟩
                go_simp
                with_reducible rfl
              rotate_left
              · simp only [Act.put, List.setIfInBounds_toArray, List.set_cons_zero, List.set_cons_succ, i64_w, i32_w]
                rfl
              refine take_ (i := 12) (N := (some 143)) (v := ?_) (a' := ?_) #[true, true, true, true, true, true, true, true, true, true, true, true, true, false, false, false, false, false, false, false, false, false, false, false] rfl rfl (take_ofW HT_.out HW_.out (by kernel_rfl)) (fun _ _ _ h => h) (Or.inl ⟨by rfl, ?_⟩) hHeld ?_ ?_
              rotate_left
              · rintro w' ⟨s0_, s1_, s2_, s3_, s4_⟩
                go_simp
                with_reducible rfl
              rotate_left
              · simp only [Act.put, List.setIfInBounds_toArray, List.set_cons_zero, List.set_cons_succ, i64_w, i32_w]
                rfl
              refine take_ (i := 13) (N := (some 144)) (v := ?_) (a' := ?_) #[true, true, true, true, true, true, true, true, true, true, true, true, true, true, false, false, false, false, false, false, false, false, false, false] rfl rfl (take_ofW HT_.out HW_.out (by kernel_rfl)) (fun _ _ _ h => h) (Or.inl ⟨by rfl, ?_⟩) hHeld ?_ ?_
              rotate_left
              · rintro w' ⟨s0_, s1_, s2_, s3_, s4_⟩
                go_simp
                with_reducible rfl
              rotate_left
              · simp only [Act.put, List.setIfInBounds_toArray, List.set_cons_zero, List.set_cons_succ, i64_w, i32_w]
                rfl
              refine take_ (i := 14) (N := (some 145)) (v := ?_) (a' := ?_) #[true, true, true, true, true, true, true, true, true, true, true, true, true, true, true, false, false, false, false, false, false, false, false, false] rfl rfl (take_ofW HT_.out HW_.out (by kernel_rfl)) (fun _ _ _ h => h) (Or.inl ⟨by rfl, ?_⟩) hHeld ?_ ?_
              rotate_left
              · rintro w' ⟨s0_, s1_, s2_, s3_, s4_⟩
                go_simp
                with_reducible rfl
              rotate_left
              · simp only [Act.put, List.setIfInBounds_toArray, List.set_cons_zero, List.set_cons_succ, i64_w, i32_w]
                rfl
              refine take_ (i := 15) (N := (some 146)) (v := ?_) (a' := ?_) #[true, true, true, true, true, true, true, true, true, true, true, true, true, true, true, true, false, false, false, false, false, false, false, false] rfl rfl (take_ofW HT_.out HW_.out (by kernel_rfl)) (fun _ _ _ h => h) (Or.inl ⟨by rfl, ?_⟩) hHeld ?_ ?_
              rotate_left
              · rintro w' ⟨s0_, s1_, s2_, s3_, s4_⟩
                go_simp
                with_reducible rfl
              rotate_left
              · simp only [Act.put, List.setIfInBounds_toArray, List.set_cons_zero, List.set_cons_succ, i64_w, i32_w]
                rfl
              refine take_ (i := 16) (N := (some 147)) (v := ?_) (a' := ?_) #[true, true, true, true, true, true, true, true, true, true, true, true, true, true, true, true, true, false, false, false, false, false, false, false] rfl rfl (take_ofW HT_.out HW_.out (by kernel_rfl)) (fun _ _ _ h => h) (Or.inl ⟨by rfl, ?_⟩) hHeld ?_ ?_
              rotate_left
              · rintro w' ⟨s0_, s1_, s2_, s3_, s4_⟩
                go_simp
                with_reducible rfl
              rotate_left
              · simp only [Act.put, List.setIfInBounds_toArray, List.set_cons_zero, List.set_cons_succ, i64_w, i32_w]
                rfl
              refine take_ (i := 17) (N := (some 148)) (v := ?_) (a' := ?_) #[true, true, true, true, true, true, true, true, true, true, true, true, true, true, true, true, true, true, false, false, false, false, false, false] rfl rfl (take_ofW HT_.out HW_.out (by kernel_rfl)) (fun _ _ _ h => h) (Or.inl ⟨by rfl, ?_⟩) hHeld ?_ ?_
              rotate_left
              · rintro w' ⟨s0_, s1_, s2_, s3_, s4_⟩
                go_simp
                with_reducible rfl
              rotate_left
              · simp only [Act.put, List.setIfInBounds_toArray, List.set_cons_zero, List.set_cons_succ, i64_w, i32_w]
                rfl
              refine take_ (i := 18) (N := (some 149)) (v := ?_) (a' := ?_) #[true, true, true, true, true, true, true, true, true, true, true, true, true, true, true, true, true, true, true, false, false, false, false, false] rfl rfl (take_ofW HT_.out HW_.out (by kernel_rfl)) (fun _ _ _ h => h) (Or.inl ⟨by rfl, ?_⟩) hHeld ?_ ?_
              rotate_left
              · rintro w' ⟨s0_, s1_, s2_, s3_, s4_⟩
                go_simp
                with_reducible rfl
              rotate_left
              · simp only [Act.put, List.setIfInBounds_toArray, List.set_cons_zero, List.set_cons_succ, i64_w, i32_w]
                rfl
              refine take_ (i := 19) (N := (some 150)) (v := ?_) (a' := ?_) #[true, true, true, true, true, true, true, true, true, true, true, true, true, true, true, true, true, true, true, true, false, false, false, false] rfl rfl (take_ofW HT_.out HW_.out (by kernel_rfl)) (fun _ _ _ h => h) (Or.inl ⟨by rfl, ?_⟩) hHeld ?_ ?_
              rotate_left
              · rintro w' ⟨s0_, s1_, s2_, s3_, s4_⟩
                go_simp
                with_reducible rfl
              rotate_left
              · simp only [Act.put, List.setIfInBounds_toArray, List.set_cons_zero, List.set_cons_succ, i64_w, i32_w]
                rfl
              refine take_ (i := 20) (N := (some 151)) (v := ?_) (a' := ?_) #[true, true, true, true, true, true, true, true, true, true, true, true, true, true, true, true, true, true, true, true, true, false, false, false] rfl rfl (take_ofW HT_.out HW_.out (by kernel_rfl)) (fun _ _ _ h => h) (Or.inl ⟨by rfl, ?_⟩) hHeld ?_ ?_
              rotate_left
              · rintro w' ⟨s0_, s1_, s2_, s3_, s4_⟩
                go_simp
                with_reducible rfl
              rotate_left
              · simp only [Act.put, List.setIfInBounds_toArray, List.set_cons_zero, List.set_cons_succ, i64_w, i32_w]
                rfl
              refine take_ (i := 21) (N := (some 152)) (v := ?_) (a' := ?_) #[true, true, true, true, true, true, true, true, true, true, true, true, true, true, true, true, true, true, true, true, true, true, false, false] rfl rfl (take_ofW HT_.out HW_.out (by kernel_rfl)) (fun _ _ _ h => h) (Or.inl ⟨by rfl, ?_⟩) hHeld ?_ ?_
              rotate_left
              · rintro w' ⟨s0_, s1_, s2_, s3_, s4_⟩
                go_simp
                with_reducible rfl
              rotate_left
              · simp only [Act.put, List.setIfInBounds_toArray, List.set_cons_zero, List.set_cons_succ, i64_w, i32_w]
                rfl
              refine one_ (i := 22) (N := (some 153)) #[true, true, true, true, true, true, true, true, true, true, true, true, true, true, true, true, true, true, true, true, true, true, true, false] rfl rfl (one_of HT_.out (by kernel_rfl)) (by decide) (fun K hK => ?_)
              refine value_ (by rfl) rfl (v := ?_) (w1 := ?_) ?_ ?_
              rotate_left 2
              · (go_simp; first | (with_reducible rfl) | (constructor <;> with_reducible rfl))
              refine hK.out _ _ ⟨(C8.out _ (by repeat (first | exact HZ.out | apply below_drew | apply below_alloc | apply pw_below_drewN))).2.1, (C8.out _ (by repeat (first | exact HZ.out | apply below_drew | apply below_alloc | apply pw_below_drewN))).2.2.1, (C8.out _ (by repeat (first | exact HZ.out | apply below_drew | apply below_alloc | apply pw_below_drewN))).2.2.2.1, (C8.out _ (by repeat (first | exact HZ.out | apply below_drew | apply below_alloc | apply pw_below_drewN))).2.2.2.2.2.1, (C8.out _ (by repeat (first | exact HZ.out | apply below_drew | apply below_alloc | apply pw_below_drewN))).2.2.2.2.2.2.1⟩ (fun hHeld => ?_)
              clear hK K
              refine norm_ (a' := ?_) ?_ ?_
              rotate_left
              · show Act.put _ (some 153) _ = _
                simp only [Act.put, List.setIfInBounds_toArray, List.set_cons_zero, List.set_cons_succ, i64_w, i32_w]
                rfl
              refine take_ (i := 23) (N := (some 12)) (v := ?_) (a' := ?_) #[true, true, true, true, true, true, true, true, true, true, true, true, true, true, true, true, true, true, true, true, true, true, true, true] rfl rfl (take_ofW HT_.out HW_.out (by kernel_rfl)) (fun _ _ _ h => h) (Or.inl ⟨by rfl, ?_⟩) hHeld ?_ ?_
              rotate_left
              · rintro w' ⟨s0_, s1_, s2_, s3_, s4_⟩
                go_simp
                with_reducible rfl
              rotate_left
              · simp only [Act.put, List.setIfInBounds_toArray, List.set_cons_zero, List.set_cons_succ, i64_w, i32_w]
                rfl
              refine done_ (done_of HT_.out (by kernel_rfl)) ?_
              have hb0 := Aside0.mk (Nat.le_trans (rb_below KS.out).size HZ.out.size)
              go_wp2
              go_roundw
              case rel => exact ⟨k + 1, ⟨T1 + T2, a, b, c, d + T1, e, f, g⟩, by omega, by simp, ⟨by rw [sh_add, sh_add]; exact Kd.R_below (r8_lit w_ w.heap.size hb0.out ⟨T1 + T2, a, b, c, d + T1, e, f, g⟩) (below_drew (Below.refl _ _))⟩, ⟨by rw [← HRN.out]; exact HN.out⟩, ⟨KS.out.below (by repeat (first | exact HZ.out | apply below_drew | apply below_alloc | apply pw_below_drewN))⟩⟩
              case measure => simp [intOf]; omega
            · obtain rfl : k = 64 := by omega
              obtain ⟨r, hr⟩ : ∃ r, W8.mk a b c d e f g h = r := ⟨_, rfl⟩
              rw [hr] at HO HRR
              have KB : Aside0 (Below w.heap.size w wr) := ⟨rb_below KS.out⟩
              clear KS hlt hk hr
              obtain ⟨gb, cap, rfl, hgb, hgl, _⟩ := Kd.R_form HO.out (by simp [w8I])
              have hl8 : (w8I r).length = 8 := rfl
              rw [hl8]
              rw [hl8] at HO
              have HO0 : Aside0 (Kd.R (Kd.int .u32) 95 wr w.heap.size (fun _ => True) (.slice (some ⟨gb, 0, none⟩) 8 cap) (cur s r 0)) := HO
              obtain ⟨ad0, rfl, hs0⟩ := (Kd.reads_of_C (enc := Value.int .u32) (d := (0 : Int)) (h1 := fun _ => rfl) HC0.out).2.2 (by omega)
              have HS0 : Aside0 (∀ j, j < 8 → w.cell? (ad0.add j) = some (.int .u32 ((w8I s).getD j 0))) := ⟨hs0⟩
              have HGB := Aside0.mk hgb
              clear HO hl8 hs0 hgb hgl
              go_wp2
              go_loopw [18] (fun v18 wr => ∃ i : Nat, i ≤ 8 ∧ v18 = .int .i64 i ∧ Aside0 (Kd.R (Kd.int .u32) 95 wr w.heap.size (fun _ => True) (.slice (some ⟨gb, 0, none⟩) 8 cap) (cur s r i)) ∧ Aside0 (Below w.heap.size w wr)) (fun v18 _ => 8 - (intOf v18).toNat)
              case atStart => exact ⟨0, by omega, rfl, HO0, KB⟩
              case round =>
                clear HO0 KB
                obtain ⟨i, hi, rfl, HO, KB⟩ := hrel
                by_cases hlt : i < 8
                · have hp := Kd.R_putn HO.out (i : Int) (((w8I r).getD i 0 + (w8I s).getD i 0) % 4294967296)
                  rw [Int.toNat_natCast, cur_next s r i hlt] at hp
                  have HP := Aside0.mk hp
                  obtain ⟨n1, n2⟩ := cur_cell HO.out hlt
                  have n3 := fl_low (HS0.out i hlt) KB.out
                  obtain ⟨y, hy⟩ : ∃ y, (w8I r).getD i 0 = y := ⟨_, rfl⟩
                  obtain ⟨x, hx⟩ : ∃ y, (w8I s).getD i 0 = y := ⟨_, rfl⟩
                  rw [hx, hy] at HP
                  rw [hx] at n3
                  rw [hy] at n1
                  have u1 : (i : Int) < 8 := by omega
                  clear hp hx hy
                  go_wp2
                  go_region
                  go_wp2
                  go_roundw
                  case rel => exact ⟨i + 1, by omega, by simp, ⟨Kd.R_below HP.out (below_drew (Below.refl _ _))⟩, ⟨below_drew (KB.out.setCell (p := ⟨gb, i, none⟩) HGB.out _)⟩⟩
                  case measure => simp [intOf]; omega
                · obtain rfl : i = 8 := by omega
                  go_wp2
                  go_ret2
                  refine ⟨_, rfl, ?_, KB.out⟩
                  have h := HO.out
                  unfold mixF
                  rw [← HRR.out]
                  exact h
end Go.Proofs.Ytaoiamifofkklaa.Obj
