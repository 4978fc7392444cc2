/- Contracts of Go functions that the claims of this seat share. -/
import Derived.Test.YtaoiamifofkklaaProg
import Derived.Below
import Derived.Deep.Draws
import Derived.Deep.AppendLies
import Derived.Maps.AppendAt
import Derived.OwnWalk
import Derived.Laws.BytesArg
import Derived.Laws.MakeOwn
import Derived.Laws.OwnMore
import Derived.Deep.OwnRows
import Derived.Tactics
import Derived.Lib.ConvBytes
import Derived.Laws.Slices
import Derived.WalkKit
import Derived.KernelRfl
import Derived.RowKit3
import Derived.Deep.LoopGhost
import Derived.Deep.QuietTactic
import Derived.BigQuiet
import Derived.WideLaws
import Derived.Deep.DeepCutAuto
import Derived.Deep.CutBlock
import Derived.Deep.RegionHeld3
import Derived.Laws.Rows
import Derived.Lib.AppendStr
import Derived.ArgAppend
import Derived.Laws.IdiomCopy
import Derived.OrdersHeld
import Derived.Laws.BitsLemmas
import Derived.RowKit
import Derived.Lib.OthersKept
import Derived.Test.YtaoiamifofkklaaWWords
import Derived.Test.YtaoiamifofkklaaWLast
import Derived.Test.YtaoiamifofkklaaWTab
import Derived.Test.YtaoiamifofkklaaWFour
import Derived.Test.YtaoiamifofkklaaWQPut
import Derived.Test.YtaoiamifofkklaaWApart
import Derived.Test.YtaoiamifofkklaaWArr
import Derived.Test.YtaoiamifofkklaaWZeros
import Derived.Test.YtaoiamifofkklaaWFoot
import Derived.Test.YtaoiamifofkklaaWKept
import Derived.Test.YtaoiamifofkklaaWShare
import Derived.Test.YtaoiamifofkklaaWN
import Derived.Test.YtaoiamifofkklaaWFootNe
import Derived.Test.YtaoiamifofkklaaWAt
import Derived.Test.YtaoiamifofkklaaWEqStruct
import Derived.Test.YtaoiamifofkklaaWRepsOne
import Derived.Test.YtaoiamifofkklaaWInv
import Derived.Test.YtaoiamifofkklaaWInvWords
import Derived.Test.YtaoiamifofkklaaWGuard
import Derived.Test.YtaoiamifofkklaaWNEv
import Derived.Test.YtaoiamifofkklaaWMore
import Derived.Test.YtaoiamifofkklaaX0Mem
import Derived.Test.YtaoiamifofkklaaX1Pure
import Derived.Test.YtaoiamifofkklaaXObjA
namespace Go.Proofs.Ytaoiamifofkklaa.Obj
open Go.RowKit Go.Proofs.YtaoiamifofkklaaW.PrintWords Go.Proofs.YtaoiamifofkklaaW.PrintLast Go.Proofs.YtaoiamifofkklaaW.PrintMore
set_option linter.unusedVariables false
set_option linter.unusedSimpArgs false
def sc5.T5 : Bool × List (List Nat × List Nat) := (true, [([], []), ([], []), ([], []), ([2], [2]), ([1], [1]), ([4, 3], [3, 4]), ([5], [5]), ([6], [6]), ([7], [7]), ([], []), ([], []), ([10], [10]), ([11], [11]), ([9], [9]), ([13, 12], [12, 13]), ([14], [14]), ([15], [15]), ([16], [16]), ([8, 17], [8, 17]), ([], []), ([], []), ([20], [20]), ([21], [21]), ([19], [19]), ([23, 22], [22, 23]), ([24], [24]), ([25], [25]), ([26], [26]), ([18, 27], [18, 27]), ([], []), ([], []), ([30], [30]), ([31], [31]), ([29], [29]), ([33, 32], [32, 33]), ([34], [34]), ([35], [35]), ([28, 36], [28, 36]), ([0, 0, 1, 2, 3, 4, 5, 6, 7, 8, 9, 10, 11, 12, 13, 14, 15, 16, 17, 18, 19, 20, 21, 22, 23, 24, 25, 26, 27, 28, 29, 30, 31, 32, 33, 34, 35, 36, 37], [0]), ([38, 37, 0, 1, 2, 3, 4, 5, 6, 7, 8, 9, 10, 11, 12, 13, 14, 15, 16, 17, 18, 19, 20, 21, 22, 23, 24, 25, 26, 27, 28, 29, 30, 31, 32, 33, 34, 35, 36, 37], [37, 38])])
def sc5.B5 : List Nat := [0, 0, 0, 4, 2, 30, 62, 126, 254, 0, 0, 1024, 3072, 512, 15872, 32256, 65024, 130560, 262142, 0, 0, 1048576, 3145728, 524288, 16252928, 33030144, 66584576, 133693440, 268435454, 0, 0, 1073741824, 3221225472, 536870912, 16642998272, 33822867456, 68182605824, 137438953470, 274877906943, 549755813887]
theorem sc5.tab5 : rtab .any (opsOf Try.f107 5) = sc5.T5 := by kernel_rfl
theorem sc5.bits5 : waitsOk sc5.T5.2 sc5.B5 = true := by kernel_rfl
def sc10.T10 : Bool × List (List Nat × List Nat) := (true, [([], []), ([], []), ([1], [1]), ([2], [2]), ([3], [3]), ([4], [4]), ([], []), ([6], [6]), ([7], [7]), ([8], [8]), ([5, 9], [5, 9]), ([], []), ([11], [11]), ([12], [12]), ([13], [13]), ([14, 5], [14]), ([10, 15], [10, 15]), ([], []), ([17], [17]), ([18], [18]), ([19], [19]), ([16, 20], [16, 20]), ([0, 0, 1, 2, 3, 4, 5, 6, 7, 8, 9, 10, 11, 12, 13, 14, 15, 16, 17, 18, 19, 20, 21], [0]), ([22, 21, 15, 0, 1, 2, 3, 4, 5, 6, 7, 8, 9, 10, 11, 12, 13, 14, 15, 16, 17, 18, 19, 20, 21], [21, 22])])
def sc10.B10 : List Nat := [0, 0, 2, 6, 14, 30, 0, 64, 192, 448, 1022, 0, 2048, 6144, 14336, 30782, 65534, 0, 131072, 393216, 917504, 2097150, 4194303, 8388607]
theorem sc10.tab10 : rtab .any (opsOf Try.f107 10) = sc10.T10 := by kernel_rfl
theorem sc10.bits10 : waitsOk sc10.T10.2 sc10.B10 = true := by kernel_rfl
/-! Words of 32 bits. -/
theorem fl_low {w w' : World} {a : Addr} {v : Value} (h : w.cell? a = some v) (hb : Below w.heap.size w w') : w'.cell? a = some v :=
  (World.cell?_of_block (w := w) (hb.block _ (World.block_lt_of_cell? w _ h))).trans h
theorem sh_shr (x : BitVec 32) (n : Nat) : (x.toNat : Int) / 2 ^ n = ((x >>> n).toNat : Int) := by
  rw [BitVec.toNat_ushiftRight, Nat.shiftRight_eq_div_pow]; simp
theorem sh_shr3 (x : BitVec 32) : (x.toNat : Int) / (8 : Int) = ((x >>> 3).toNat : Int) := by
  have h := sh_shr x 3
  have e : (2 : Int) ^ 3 = (8 : Int) := by decide
  rw [e] at h
  exact h
theorem sh_shr10 (x : BitVec 32) : (x.toNat : Int) / (1024 : Int) = ((x >>> 10).toNat : Int) := by
  have h := sh_shr x 10
  have e : (2 : Int) ^ 10 = (1024 : Int) := by decide
  rw [e] at h
  exact h
theorem sh_shl (x : BitVec 32) (n : Nat) : (x.toNat : Int) * 2 ^ n % 4294967296 = ((x <<< n).toNat : Int) := by
  rw [BitVec.toNat_shiftLeft, Nat.shiftLeft_eq]; simp
theorem sh_add (x y : BitVec 32) : ((x.toNat : Int) + (y.toNat : Int)) % 4294967296 = ((x + y).toNat : Int) := by
  rw [BitVec.toNat_add]; simp
theorem sh_right (x : BitVec 32) (n : Nat) (w : World) (hn : n ≤ 32) :
    Calls Try.prog 114 #[.int .u32 (x.toNat : Int), .int .u64 (n : Int)] w fun e w' => e = .returned (.int .u32 ((rotr x n).toNat : Int)) ∧ w' = w := by
  have h1 := x_lt 32 x
  go_enter Try.func114, Try.ntmps114
  go_wp2
  go_ret
  refine ⟨?_, rfl⟩
  show Ending.returned (Value.int IntKind.u32 (bits BinOp.or IntKind.u32 (↑x.toNat / 2 ^ n) (↑x.toNat * 2 ^ (32 - n) % 4294967296))) = _
  rw [sh_shr, sh_shl, x_or32]
  rfl
theorem sh_rightI (x : BitVec 32) (m : Int) (n : Nat) (w : World) (e : m = (n : Int)) (hn : n ≤ 32) :
    Calls Try.prog 114 #[.int .u32 (x.toNat : Int), .int .u64 m] w fun e w' => e = .returned (.int .u32 ((rotr x n).toNat : Int)) ∧ w' = w := by
  subst e
  exact sh_right x n w hn
def bS0 (x : BitVec 32) : BitVec 32 := rotr x 2 ^^^ rotr x 13 ^^^ rotr x 22
def bS1 (x : BitVec 32) : BitVec 32 := rotr x 6 ^^^ rotr x 11 ^^^ rotr x 25
def sS0 (x : BitVec 32) : BitVec 32 := rotr x 7 ^^^ rotr x 18 ^^^ x >>> 3
def sS1 (x : BitVec 32) : BitVec 32 := rotr x 17 ^^^ rotr x 19 ^^^ x >>> 10
theorem sh_great0 (x : BitVec 32) (w : World) : Calls Try.prog 109 #[.int .u32 (x.toNat : Int)] w fun e w' => e = .returned (.int .u32 ((bS0 x).toNat : Int)) ∧ w' = w := by
  have h1 := x_lt 32 x
  go_enter Try.func109, Try.ntmps109
  go_wp2_with (first
    | (go_at_call 114; (with_reducible refine (sh_rightI x 2 2 _ rfl (by decide)).mono ?_); rintro e w' ⟨rfl, rfl⟩)
    | (go_at_call 114; (with_reducible refine (sh_rightI x 13 13 _ rfl (by decide)).mono ?_); rintro e w' ⟨rfl, rfl⟩)
    | (go_at_call 114; (with_reducible refine (sh_rightI x 22 22 _ rfl (by decide)).mono ?_); rintro e w' ⟨rfl, rfl⟩))
  go_ret
  refine ⟨?_, rfl⟩
  show Ending.returned (Value.int IntKind.u32 (bits BinOp.xor IntKind.u32 (bits BinOp.xor IntKind.u32 ↑(rotr x 2).toNat ↑(rotr x 13).toNat) ↑(rotr x 22).toNat)) = _
  rw [x_xor32, x_xor32]
  rfl
theorem sh_great1 (x : BitVec 32) (w : World) : Calls Try.prog 108 #[.int .u32 (x.toNat : Int)] w fun e w' => e = .returned (.int .u32 ((bS1 x).toNat : Int)) ∧ w' = w := by
  have h1 := x_lt 32 x
  go_enter Try.func108, Try.ntmps108
  go_wp2_with (first
    | (go_at_call 114; (with_reducible refine (sh_rightI x 6 6 _ rfl (by decide)).mono ?_); rintro e w' ⟨rfl, rfl⟩)
    | (go_at_call 114; (with_reducible refine (sh_rightI x 11 11 _ rfl (by decide)).mono ?_); rintro e w' ⟨rfl, rfl⟩)
    | (go_at_call 114; (with_reducible refine (sh_rightI x 25 25 _ rfl (by decide)).mono ?_); rintro e w' ⟨rfl, rfl⟩))
  go_ret
  refine ⟨?_, rfl⟩
  show Ending.returned (Value.int IntKind.u32 (bits BinOp.xor IntKind.u32 (bits BinOp.xor IntKind.u32 ↑(rotr x 6).toNat ↑(rotr x 11).toNat) ↑(rotr x 25).toNat)) = _
  rw [x_xor32, x_xor32]
  rfl
theorem sh_small0 (x : BitVec 32) (w : World) : Calls Try.prog 113 #[.int .u32 (x.toNat : Int)] w fun e w' => e = .returned (.int .u32 ((sS0 x).toNat : Int)) ∧ w' = w := by
  have h1 := x_lt 32 x
  go_enter Try.func113, Try.ntmps113
  go_wp2_with (first
    | (go_at_call 114; (with_reducible refine (sh_rightI x 7 7 _ rfl (by decide)).mono ?_); rintro e w' ⟨rfl, rfl⟩)
    | (go_at_call 114; (with_reducible refine (sh_rightI x 18 18 _ rfl (by decide)).mono ?_); rintro e w' ⟨rfl, rfl⟩))
  go_ret
  refine ⟨?_, rfl⟩
  show Ending.returned (Value.int IntKind.u32 (bits BinOp.xor IntKind.u32 (bits BinOp.xor IntKind.u32 ↑(rotr x 7).toNat ↑(rotr x 18).toNat) (↑x.toNat / 8))) = _
  rw [sh_shr3, x_xor32, x_xor32]
  rfl
theorem sh_small1 (x : BitVec 32) (w : World) : Calls Try.prog 112 #[.int .u32 (x.toNat : Int)] w fun e w' => e = .returned (.int .u32 ((sS1 x).toNat : Int)) ∧ w' = w := by
  have h1 := x_lt 32 x
  go_enter Try.func112, Try.ntmps112
  go_wp2_with (first
    | (go_at_call 114; (with_reducible refine (sh_rightI x 17 17 _ rfl (by decide)).mono ?_); rintro e w' ⟨rfl, rfl⟩)
    | (go_at_call 114; (with_reducible refine (sh_rightI x 19 19 _ rfl (by decide)).mono ?_); rintro e w' ⟨rfl, rfl⟩))
  go_ret
  refine ⟨?_, rfl⟩
  show Ending.returned (Value.int IntKind.u32 (bits BinOp.xor IntKind.u32 (bits BinOp.xor IntKind.u32 ↑(rotr x 17).toNat ↑(rotr x 19).toNat) (↑x.toNat / 1024))) = _
  rw [sh_shr10, x_xor32, x_xor32]
  rfl
def wds (L : List (BitVec 32)) : List Value := L.map fun x => .int .u32 (x.toNat : Int)
theorem wds_len (L : List (BitVec 32)) : (wds L).length = L.length := by simp [wds]
def ofb (n : Int) : BitVec 32 := BitVec.ofNat 32 n.toNat
theorem ofb_toNat {n : Int} (h : 0 ≤ n ∧ n < 256) : ((ofb n).toNat : Int) = n := by
  unfold ofb
  rw [BitVec.toNat_ofNat, Nat.mod_eq_of_lt (by omega)]
  omega
def ldW (xs : List Int) (t : Nat) : BitVec 32 := ofb (xs.getD (4 * t) 0) <<< 24 ||| ofb (xs.getD (4 * t + 1) 0) <<< 16 ||| ofb (xs.getD (4 * t + 2) 0) <<< 8 ||| ofb (xs.getD (4 * t + 3) 0)
/-- the words of a block, the first t of them -/
def schL (xs : List Int) : Nat → List (BitVec 32)
  | 0 => []
  | t + 1 => schL xs t ++ [if t < 16 then ldW xs t else sS1 ((schL xs t).getD (t - 2) 0) + (schL xs t).getD (t - 7) 0 + sS0 ((schL xs t).getD (t - 15) 0) + (schL xs t).getD (t - 16) 0]
theorem schL_len (xs : List Int) : ∀ t, (schL xs t).length = t
  | 0 => rfl
  | t + 1 => by rw [schL, List.length_append, schL_len xs t]; rfl
def row64 (L : List (BitVec 32)) : Array Value := (wds (L ++ List.replicate (64 - L.length) 0)).toArray
def Sc (w0 wr : World) (L : List (BitVec 32)) : Prop :=
  wr.heap[w0.heap.size]? = some (.cells (row64 []) 142 (0, 0)) ∧ wr.heap[w0.heap.size + 1]? = some (.cells (row64 L) 142 (0, 0)) ∧ Below w0.heap.size w0 wr
theorem sc_cell {w0 wr : World} {L : List (BitVec 32)} (h : Sc w0 wr L) {j : Nat} (hj : j < L.length) : wr.cell? ⟨w0.heap.size + 1, j, none⟩ = some (.int .u32 ((L.getD j 0).toNat : Int)) := by
  rw [cell_of_row _ _ _ _ _ _ h.2.1]
  unfold row64 wds
  rw [List.getElem?_toArray, List.getElem?_map, List.getElem?_append_left hj, List.getElem?_eq_getElem hj, List.getD_eq_getElem?_getD, List.getElem?_eq_getElem hj]
  rfl
theorem sc_next {w0 wr : World} {L : List (BitVec 32)} (h : Sc w0 wr L) (hl : L.length < 64) : wr.cell? ⟨w0.heap.size + 1, L.length, none⟩ = some (.int .u32 0) ∧ wr.frozen? ⟨w0.heap.size + 1, L.length, none⟩ = false := by
  refine ⟨?_, frozen_of_row _ _ _ _ _ h.2.1⟩
  rw [cell_of_row _ _ _ _ _ _ h.2.1]
  unfold row64 wds
  rw [List.getElem?_toArray, List.getElem?_map, List.getElem?_append_right (Nat.le_refl _), Nat.sub_self, List.getElem?_replicate, if_pos (by omega)]
  rfl
theorem sc_below {w0 W : World} (h : Below w0.heap.size w0 W) (j : Nat) (u : Value) : Below w0.heap.size w0 (W.setCell ⟨w0.heap.size + 1, j, none⟩ u) := h.setCell (p := ⟨w0.heap.size + 1, j, none⟩) (by show w0.heap.size ≤ w0.heap.size + 1; omega) u
theorem sc_put {w0 wr : World} {L : List (BitVec 32)} (h : Sc w0 wr L) (hl : L.length < 64) (x : BitVec 32) : Sc w0 (wr.setCell ⟨w0.heap.size + 1, L.length, none⟩ (.int .u32 (x.toNat : Int))) (L ++ [x]) := by
  refine ⟨?_, ?_, h.2.2.setCell (p := ⟨w0.heap.size + 1, L.length, none⟩) (by show w0.heap.size ≤ w0.heap.size + 1; omega) _⟩
  · rw [heap_setCell_other _ _ _ _ (by show w0.heap.size ≠ w0.heap.size + 1; omega)]
    exact h.1
  · rw [heap_setCell_same _ _ _ _ _ _ h.2.1]
    congr 2
    unfold row64
    rw [List.setIfInBounds_toArray]
    congr 1
    unfold wds
    rw [← List.map_set]
    congr 1
    rw [List.set_append_right _ _ (Nat.le_refl _), Nat.sub_self, List.append_assoc]
    congr 1
    rw [List.length_append]
    have e : 64 - L.length = (64 - (L.length + 1)) + 1 := by omega
    rw [e, List.replicate_succ, List.set_cons_zero]
    rfl
theorem sc_drew {w0 wr : World} {L : List (BitVec 32)} (h : Sc w0 wr L) : Sc w0 wr.drew L := ⟨h.1, h.2.1, below_drew h.2.2⟩
theorem ofb_mod {n : Int} (h : 0 ≤ n ∧ n < 256) : n % 4294967296 = ((ofb n).toNat : Int) := by rw [ofb_toNat h]; omega
theorem ldW_eq {b0 b1 b2 b3 : Int} (h0 : 0 ≤ b0 ∧ b0 < 256) (h1 : 0 ≤ b1 ∧ b1 < 256) (h2 : 0 ≤ b2 ∧ b2 < 256) (h3 : 0 ≤ b3 ∧ b3 < 256) :
    Go.bits BinOp.or IntKind.u32 (Go.bits BinOp.or IntKind.u32 (Go.bits BinOp.or IntKind.u32 (b0 % 4294967296 * 16777216 % 4294967296) (b1 % 4294967296 * 65536 % 4294967296)) (b2 % 4294967296 * 256 % 4294967296)) (b3 % 4294967296) = ((ofb b0 <<< 24 ||| ofb b1 <<< 16 ||| ofb b2 <<< 8 ||| ofb b3).toNat : Int) := by
  rw [ofb_mod h0, ofb_mod h1, ofb_mod h2, ofb_mod h3]
  have e24 := sh_shl (ofb b0) 24
  have e16 := sh_shl (ofb b1) 16
  have e8 := sh_shl (ofb b2) 8
  have q24 : (2 : Int) ^ 24 = 16777216 := by decide
  have q16 : (2 : Int) ^ 16 = 65536 := by decide
  have q8 : (2 : Int) ^ 8 = 256 := by decide
  rw [q24] at e24
  rw [q16] at e16
  rw [q8] at e8
  rw [e24, e16, e8, x_or32, x_or32, x_or32]
theorem at_b {xs : List Int} (h : IsB xs) {j : Nat} (hj : j < xs.length) : 0 ≤ xs.getD j 0 ∧ xs.getD j 0 < 256 := by
  rw [List.getD_eq_getElem?_getD, List.getElem?_eq_getElem hj]
  exact h.get hj
theorem row_one (L : List (BitVec 32)) : (row64 L).all (·.oneCell') = true := by
  refine Array.all_eq_true_iff_forall_mem.2 (fun v hv => ?_)
  unfold row64 wds at hv
  simp only [List.mem_toArray, List.mem_map] at hv
  obtain ⟨x, _, rfl⟩ := hv
  rfl
theorem row_size (L : List (BitVec 32)) (h : L.length ≤ 64) : (row64 L).size = 64 := by
  unfold row64
  rw [List.size_toArray, wds_len, List.length_append, List.length_replicate]
  omega
theorem sc_other {W : World} {B j k : Nat} {v u : Value} (h : W.cell? ⟨B, j, none⟩ = some v) (hn : j ≠ k) : (W.setCell ⟨B, k, none⟩ u).cell? ⟨B, j, none⟩ = some v := by
  rw [World.cell?_setCell_other _ _ _ _ (by intro e; injection e with _ e; exact hn e.symm)]
  exact h
theorem sch_lo (xs : List Int) {k : Nat} (h : k < 16) : schL xs (k + 1) = schL xs k ++ [ldW xs k] := by rw [schL, if_pos h]
theorem sch_hi (xs : List Int) {k : Nat} (h : ¬ k < 16) : schL xs (k + 1) = schL xs k ++ [sS1 ((schL xs k).getD (k - 2) 0) + (schL xs k).getD (k - 7) 0 + sS0 ((schL xs k).getD (k - 15) 0) + (schL xs k).getD (k - 16) 0] := by rw [schL, if_neg h]
theorem sc_at {w0 wr : World} {xs : List Int} {k : Nat} (h : Sc w0 wr (schL xs k)) (hk : k < 64) (x : BitVec 32) : Sc w0 (wr.setCell ⟨w0.heap.size + 1, k, none⟩ (.int .u32 (x.toNat : Int))) (schL xs k ++ [x]) := by
  have q := sc_put h (by rw [schL_len]; exact hk) x
  rwa [schL_len] at q
theorem sc_start (w : World) : Sc w ((w.alloc (.cells (row64 []) 142)).alloc (.cells (row64 []) 142)) (schL [] 0) :=
  ⟨heap_alloc2_old _ _ _, heap_alloc2_new _ _ _, ((Below.refl _ _).alloc (Nat.le_refl _) _).alloc (by simp) _⟩
section
variable {P : Program} {ops : Array Oper} {rest : List Oper} {o : Oper} {a : Act} {Q : Exit → Act → World → Prop}
/-- a whole array into a variable -/
theorem x_arrStore {W : World} (hgd : o.guard = none) (t : TypeId) (p v : Operand) (ho : o.op = .store t p v) (B : Nat) (old new : Array Value) (hp : a.eval p = .pointer (some ⟨B, 0, none⟩)) (hv : a.eval v = .agg new)
    (hh : W.heap[B]? = some (.cells old t (0, 0))) (hi : (P.info? t).map (·.size) = some new.size) (hs : old.size = new.size) (h1 : new.all (·.oneCell') = true)
    (h : ∀ W1, W1.heap[B]? = some (.cells new t (0, 0)) → W.grownBy W1 (some B) → wpList P ops Q rest (a.put o.dst undef) W1) : wpList P ops Q (o :: rest) a W := by
  refine wpList_plain hgd fun _ hK => ?_
  unfold Oper.wp execOp
  simp only [ho, hp, hv, Instr.storeAt, Instr.sureAddr, Sem.run_bind, Sem.run_pure, Result.andThen_ok, run_storeVar_row W B t t old new hh hi hs h1]
  refine hK _ _ (h _ ?_ ?_)
  · exact setRow_heap W B _ _ t _ hh
  · exact ⟨rfl, rfl, rfl, by simp [World.setRow], fun i hi hne => setRow_other W B i _ (by intro e'; subst e'; exact hne rfl)⟩
end
set_option maxHeartbeats 4000000 in
set_option maxRecDepth 100000 in
theorem sh_schedule (A : Addr) (xs : List Int) (w : World) (hx : IsB xs) (hl : xs.length = 64) (hC : ∀ j, j < 64 → w.cell? (A.add j) = some (.int .u8 (xs.getD j 0))) :
    Calls Try.prog 107 #[.pointer (some A)] w fun e w' => e = .returned (.agg (row64 (schL xs 64))) ∧ Below w.heap.size w w' := by
  have HC := Aside0.mk hC
  have HX := Aside0.mk hx
  have HL := Aside0.mk hl
  clear hC hx hl
  go_enter Try.func107, Try.ntmps107
  go_wp2
  go_loopw [6] (fun v6 wr => ∃ k : Nat, k ≤ 16 ∧ v6 = .int .i64 k ∧ Aside0 (Sc w wr (schL xs k))) (fun v6 _ => 16 - (intOf v6).toNat)
  case atStart => exact ⟨0, Nat.zero_le _, rfl, ⟨sc_start w⟩⟩
  case round =>
    obtain ⟨k, hk, rfl, KS⟩ := hrel
    by_cases hlt : k < 16
    · have hln := schL_len xs k
      obtain ⟨b0, e0⟩ : ∃ b, xs.getD (4 * k) 0 = b := ⟨_, rfl⟩
      obtain ⟨b1, e1⟩ : ∃ b, xs.getD (4 * k + 1) 0 = b := ⟨_, rfl⟩
      obtain ⟨b2, e2⟩ : ∃ b, xs.getD (4 * k + 2) 0 = b := ⟨_, rfl⟩
      obtain ⟨b3, e3⟩ : ∃ b, xs.getD (4 * k + 3) 0 = b := ⟨_, rfl⟩
      obtain ⟨m, hm⟩ : ∃ m, 4 * k = m := ⟨_, rfl⟩
      rw [hm] at e0 e1 e2 e3
      have C : Aside0 (∀ j, j < 64 → ∀ W, Below w.heap.size w W → W.cell? (A.add j) = some (.int .u8 (xs.getD j 0))) := ⟨fun j hj W hb => fl_low (HC.out j hj) hb⟩
      obtain ⟨j1, hj1⟩ : ∃ j, m + 1 = j := ⟨_, rfl⟩
      obtain ⟨j2, hj2⟩ : ∃ j, m + 2 = j := ⟨_, rfl⟩
      obtain ⟨j3, hj3⟩ : ∃ j, m + 3 = j := ⟨_, rfl⟩
      rw [hj1] at e1
      rw [hj2] at e2
      rw [hj3] at e3
      have c0 := C.out m (by omega)
      have c1 := C.out j1 (by omega)
      have c2 := C.out j2 (by omega)
      have c3 := C.out j3 (by omega)
      have hm' : 4 * (k : Int) = (m : Int) := by omega
      obtain ⟨n1, n2⟩ := sc_next KS.out (by omega)
      rw [e0] at c0
      rw [e1] at c1
      rw [e2] at c2
      rw [e3] at c3
      rw [hln] at n1 n2
      have C0 := Aside0.mk c0
      have C1 := Aside0.mk c1
      have C2 := Aside0.mk c2
      have C3 := Aside0.mk c3
      clear c0 c1 c2 c3 C
      have u0 : (m : Int) < 64 := by omega
      have u1 : (m : Int) + 1 < 64 := by omega
      have u2 : (m : Int) + 2 < 64 := by omega
      have u3 : (m : Int) + 3 < 64 := by omega
      have u4 : (k : Int) < 64 := by omega
      have hb0 := at_b HX.out (show m < xs.length by rw [HL.out]; omega)
      have hb1 := at_b HX.out (show j1 < xs.length by rw [HL.out]; omega)
      have hb2 := at_b HX.out (show j2 < xs.length by rw [HL.out]; omega)
      have hb3 := at_b HX.out (show j3 < xs.length by rw [HL.out]; omega)
      rw [e0] at hb0
      rw [e1] at hb1
      rw [e2] at hb2
      rw [e3] at hb3
      have hv := ldW_eq hb0 hb1 hb2 hb3
      have hld : ldW xs k = ofb b0 <<< 24 ||| ofb b1 <<< 16 ||| ofb b2 <<< 8 ||| ofb b3 := by
        unfold ldW
        rw [hm, hj1, hj2, hj3, e0, e1, e2, e3]
      obtain ⟨x, hxw⟩ : ∃ x, ofb b0 <<< 24 ||| ofb b1 <<< 16 ||| ofb b2 <<< 8 ||| ofb b3 = x := ⟨_, rfl⟩
      rw [hxw] at hv hld
      have HV := Aside0.mk hv
      have hp := sc_at KS.out (by omega) x
      rw [← hld, ← sch_lo xs hlt, hld] at hp
      have HP := Aside0.mk hp
      clear hln e0 e1 e2 e3 hm hb0 hb1 hb2 hb3 hv hld hxw hp
      go_wp2
      have v1 : ((m : Int) + 1).toNat = j1 := by omega
      have v2 : ((m : Int) + 2).toNat = j2 := by omega
      have v3 : ((m : Int) + 3).toNat = j3 := by omega
      have p1 : 0 ≤ (m : Int) + 1 := by omega
      have p2 : 0 ≤ (m : Int) + 2 := by omega
      have p3 : 0 ≤ (m : Int) + 3 := by omega
      have w0 : wrap64 (m : Int) = (m : Int) := x_w64 (by omega) (by omega)
      have w1 : wrap64 ((m : Int) + 1) = (m : Int) + 1 := x_w64 (by omega) (by omega)
      have w2 : wrap64 ((m : Int) + 2) = (m : Int) + 2 := x_w64 (by omega) (by omega)
      have w3 : wrap64 ((m : Int) + 3) = (m : Int) + 3 := x_w64 (by omega) (by omega)
      have HJ := Aside0.mk (And.intro hj1 (And.intro hj2 hj3))
      clear hj1 hj2 hj3
      refine start_ (n := 40) (S := fun w' => w'.cell? (A.add m) = some (.int .u8 b0) ∧ w'.cell? (A.add j1) = some (.int .u8 b1) ∧ w'.cell? (A.add j2) = some (.int .u8 b2) ∧ w'.cell? (A.add j3) = some (.int .u8 b3)) (ds := []) #[false, false, false, false, false, false, false, false, false, false, false, false, false, false, false, false, false, false, false, false, false, false, false, false, false, false, false, false, false, false, false, false, false, false, false, false, false, false, false, false] (by kernel_rfl) rfl rfl ⟨C0.out _ (by repeat (first | exact KS.out.2.2 | apply below_drew | apply pw_below_drewN | refine sc_below ?_ _ _)), C1.out _ (by repeat (first | exact KS.out.2.2 | apply below_drew | apply pw_below_drewN | refine sc_below ?_ _ _)), C2.out _ (by repeat (first | exact KS.out.2.2 | apply below_drew | apply pw_below_drewN | refine sc_below ?_ _ _)), C3.out _ (by repeat (first | exact KS.out.2.2 | apply below_drew | apply pw_below_drewN | refine sc_below ?_ _ _))⟩ (fun hHeld => ?_); refine with_tabW sc5.tab5 sc5.bits5 (fun HT_ HW_ => ?_)
      refine take_ (i := 0) (N := (some 9)) (v := ?_) (a' := ?_) #[true, false, false, false, false, false, false, false, false, false, false, false, false, false, false, false, false, false, false, false, false, false, false, false, false, false, false, false, false, false, false, false, false, false, false, false, false, false, false, false] rfl rfl (take_ofW HT_.out HW_.out (by kernel_rfl)) (fun _ _ _ h => h) (Or.inl ⟨by rfl, ?_⟩) hHeld ?_ ?_
      rotate_left
      · rintro w' ⟨s0_, s1_, s2_, s3_⟩
        go_simp
        with_reducible rfl
      rotate_left
      · simp only [Act.put, List.setIfInBounds_toArray, List.set_cons_zero, List.set_cons_succ, i64_w, i32_w]
        rfl
      refine take_ (i := 1) (N := (some 10)) (v := ?_) (a' := ?_) #[true, true, false, false, false, false, false, false, false, false, false, false, false, false, false, false, false, false, false, false, false, false, false, false, false, false, false, false, false, false, false, false, false, false, false, false, false, false, false, false] rfl rfl (take_ofW HT_.out HW_.out (by kernel_rfl)) (fun _ _ _ h => h) (Or.inl ⟨by rfl, ?_⟩) hHeld ?_ ?_
      rotate_left
      · rintro w' ⟨s0_, s1_, s2_, s3_⟩
        go_simp
        with_reducible rfl
      rotate_left
      · simp only [Act.put, List.setIfInBounds_toArray, List.set_cons_zero, List.set_cons_succ, i64_w, i32_w]
        rfl
      refine take_ (i := 2) (N := (some 11)) (v := ?_) (a' := ?_) #[true, true, true, false, false, false, false, false, false, false, false, false, false, false, false, false, false, false, false, false, false, false, false, false, false, false, false, false, false, false, false, false, false, false, false, false, false, false, false, false] rfl rfl (take_ofW HT_.out HW_.out (by kernel_rfl)) (fun _ _ _ h => h) (Or.inl ⟨by rfl, ?_⟩) hHeld ?_ ?_
      rotate_left
      · rintro w' ⟨s0_, s1_, s2_, s3_⟩
        go_simp
        with_reducible rfl
      rotate_left
      · simp only [Act.put, List.setIfInBounds_toArray, List.set_cons_zero, List.set_cons_succ, i64_w, i32_w]
        rfl
      refine take_ (i := 3) (N := (some 12)) (v := ?_) (a' := ?_) #[true, true, true, true, false, false, false, false, false, false, false, false, false, false, false, false, false, false, false, false, false, false, false, false, false, false, false, false, false, false, false, false, false, false, false, false, false, false, false, false] rfl rfl (take_ofW HT_.out HW_.out (by kernel_rfl)) (fun _ _ _ h => h) (Or.inl ⟨by rfl, ?_⟩) hHeld ?_ ?_
      rotate_left
      · rintro w' ⟨s0_, s1_, s2_, s3_⟩
        go_simp
        with_reducible rfl
      rotate_left
      · simp only [Act.put, List.setIfInBounds_toArray, List.set_cons_zero, List.set_cons_succ, i64_w, i32_w]
        rfl
      refine take_ (i := 4) (N := (some 13)) (v := ?_) (a' := ?_) #[true, true, true, true, true, false, false, false, false, false, false, false, false, false, false, false, false, false, false, false, false, false, false, false, false, false, false, false, false, false, false, false, false, false, false, false, false, false, false, false] rfl rfl (take_ofW HT_.out HW_.out (by kernel_rfl)) (fun _ _ _ h => h) (Or.inl ⟨by rfl, ?_⟩) hHeld ?_ ?_
      rotate_left
      · rintro w' ⟨s0_, s1_, s2_, s3_⟩
        go_simp
        with_reducible rfl
      rotate_left
      · simp only [Act.put, List.setIfInBounds_toArray, List.set_cons_zero, List.set_cons_succ, i64_w, i32_w]
        rfl
      refine take_ (i := 5) (N := (some 14)) (v := ?_) (a' := ?_) #[true, true, true, true, true, true, false, false, false, false, false, false, false, false, false, false, false, false, false, false, false, false, false, false, false, false, false, false, false, false, false, false, false, false, false, false, false, false, false, false] rfl rfl (take_ofW HT_.out HW_.out (by kernel_rfl)) (fun _ _ _ h => h) (Or.inl ⟨by rfl, ?_⟩) hHeld ?_ ?_
      rotate_left
      · rintro w' ⟨s0_, s1_, s2_, s3_⟩
        go_simp
        with_reducible rfl
      rotate_left
      · simp only [Act.put, List.setIfInBounds_toArray, List.set_cons_zero, List.set_cons_succ, i64_w, i32_w]
        rfl
      refine take_ (i := 6) (N := (some 15)) (v := ?_) (a' := ?_) #[true, true, true, true, true, true, true, false, false, false, false, false, false, false, false, false, false, false, false, false, false, false, false, false, false, false, false, false, false, false, false, false, false, false, false, false, false, false, false, false] rfl rfl (take_ofW HT_.out HW_.out (by kernel_rfl)) (fun _ _ _ h => h) (Or.inl ⟨by rfl, ?_⟩) hHeld ?_ ?_
      rotate_left
      · rintro w' ⟨s0_, s1_, s2_, s3_⟩
        go_simp
        with_reducible rfl
      rotate_left
      · simp only [Act.put, List.setIfInBounds_toArray, List.set_cons_zero, List.set_cons_succ, i64_w, i32_w]
        rfl
      refine take_ (i := 7) (N := (some 16)) (v := ?_) (a' := ?_) #[true, true, true, true, true, true, true, true, false, false, false, false, false, false, false, false, false, false, false, false, false, false, false, false, false, false, false, false, false, false, false, false, false, false, false, false, false, false, false, false] rfl rfl (take_ofW HT_.out HW_.out (by kernel_rfl)) (fun _ _ _ h => h) (Or.inl ⟨by rfl, ?_⟩) hHeld ?_ ?_
      rotate_left
      · rintro w' ⟨s0_, s1_, s2_, s3_⟩
        go_simp
        with_reducible rfl
      rotate_left
      · simp only [Act.put, List.setIfInBounds_toArray, List.set_cons_zero, List.set_cons_succ, i64_w, i32_w]
        rfl
      refine take_ (i := 8) (N := (some 17)) (v := ?_) (a' := ?_) #[true, true, true, true, true, true, true, true, true, false, false, false, false, false, false, false, false, false, false, false, false, false, false, false, false, false, false, false, false, false, false, false, false, false, false, false, false, false, false, false] rfl rfl (take_ofW HT_.out HW_.out (by kernel_rfl)) (fun _ _ _ h => h) (Or.inl ⟨by rfl, ?_⟩) hHeld ?_ ?_
      rotate_left
      · rintro w' ⟨s0_, s1_, s2_, s3_⟩
        go_simp
        with_reducible rfl
      rotate_left
      · simp only [Act.put, List.setIfInBounds_toArray, List.set_cons_zero, List.set_cons_succ, i64_w, i32_w]
        rfl
      refine take_ (i := 9) (N := (some 18)) (v := ?_) (a' := ?_) #[true, true, true, true, true, true, true, true, true, true, false, false, false, false, false, false, false, false, false, false, false, false, false, false, false, false, false, false, false, false, false, false, false, false, false, false, false, false, false, false] rfl rfl (take_ofW HT_.out HW_.out (by kernel_rfl)) (fun _ _ _ h => h) (Or.inl ⟨by rfl, ?_⟩) hHeld ?_ ?_
      rotate_left
      · rintro w' ⟨s0_, s1_, s2_, s3_⟩
        go_simp
        with_reducible rfl
      rotate_left
      · simp only [Act.put, List.setIfInBounds_toArray, List.set_cons_zero, List.set_cons_succ, i64_w, i32_w]
        rfl
      refine take_ (i := 10) (N := (some 19)) (v := ?_) (a' := ?_) #[true, true, true, true, true, true, true, true, true, true, true, false, false, false, false, false, false, false, false, false, false, false, false, false, false, false, false, false, false, false, false, false, false, false, false, false, false, false, false, false] rfl rfl (take_ofW HT_.out HW_.out (by kernel_rfl)) (fun _ _ _ h => h) (Or.inl ⟨by rfl, ?_⟩) hHeld ?_ ?_
      rotate_left
      · rintro w' ⟨s0_, s1_, s2_, s3_⟩
        go_simp
        with_reducible rfl
      rotate_left
      · simp only [Act.put, List.setIfInBounds_toArray, List.set_cons_zero, List.set_cons_succ, i64_w, i32_w]
        rfl
      refine take_ (i := 11) (N := (some 20)) (v := ?_) (a' := ?_) #[true, true, true, true, true, true, true, true, true, true, true, true, false, false, false, false, false, false, false, false, false, false, false, false, false, false, false, false, false, false, false, false, false, false, false, false, false, false, false, false] rfl rfl (take_ofW HT_.out HW_.out (by kernel_rfl)) (fun _ _ _ h => h) (Or.inl ⟨by rfl, ?_⟩) hHeld ?_ ?_
      rotate_left
      · rintro w' ⟨s0_, s1_, s2_, s3_⟩
        go_simp
        with_reducible rfl
      rotate_left
      · simp only [Act.put, List.setIfInBounds_toArray, List.set_cons_zero, List.set_cons_succ, i64_w, i32_w]
        rfl
      refine take_ (i := 12) (N := (some 21)) (v := ?_) (a' := ?_) #[true, true, true, true, true, true, true, true, true, true, true, true, true, false, false, false, false, false, false, false, false, false, false, false, false, false, false, false, false, false, false, false, false, false, false, false, false, false, false, false] rfl rfl (take_ofW HT_.out HW_.out (by kernel_rfl)) (fun _ _ _ h => h) (Or.inl ⟨by rfl, ?_⟩) hHeld ?_ ?_
      rotate_left
      · rintro w' ⟨s0_, s1_, s2_, s3_⟩
        go_simp
        with_reducible rfl
      rotate_left
      · simp only [Act.put, List.setIfInBounds_toArray, List.set_cons_zero, List.set_cons_succ, i64_w, i32_w]
        rfl
      refine take_ (i := 13) (N := (some 22)) (v := ?_) (a' := ?_) #[true, true, true, true, true, true, true, true, true, true, true, true, true, true, false, false, false, false, false, false, false, false, false, false, false, false, false, false, false, false, false, false, false, false, false, false, false, false, false, false] rfl rfl (take_ofW HT_.out HW_.out (by kernel_rfl)) (fun _ _ _ h => h) (Or.inl ⟨by rfl, ?_⟩) hHeld ?_ ?_
      rotate_left
      · rintro w' ⟨s0_, s1_, s2_, s3_⟩
        go_simp
        with_reducible rfl
      rotate_left
      · simp only [Act.put, List.setIfInBounds_toArray, List.set_cons_zero, List.set_cons_succ, i64_w, i32_w]
        rfl
      refine take_ (i := 14) (N := (some 23)) (v := ?_) (a' := ?_) #[true, true, true, true, true, true, true, true, true, true, true, true, true, true, true, false, false, false, false, false, false, false, false, false, false, false, false, false, false, false, false, false, false, false, false, false, false, false, false, false] rfl rfl (take_ofW HT_.out HW_.out (by kernel_rfl)) (fun _ _ _ h => h) (Or.inl ⟨by rfl, ?_⟩) hHeld ?_ ?_
      rotate_left
      · rintro w' ⟨s0_, s1_, s2_, s3_⟩
        go_simp
        with_reducible rfl
      rotate_left
      · simp only [Act.put, List.setIfInBounds_toArray, List.set_cons_zero, List.set_cons_succ, i64_w, i32_w]
        rfl
      refine take_ (i := 15) (N := (some 24)) (v := ?_) (a' := ?_) #[true, true, true, true, true, true, true, true, true, true, true, true, true, true, true, true, false, false, false, false, false, false, false, false, false, false, false, false, false, false, false, false, false, false, false, false, false, false, false, false] rfl rfl (take_ofW HT_.out HW_.out (by kernel_rfl)) (fun _ _ _ h => h) (Or.inl ⟨by rfl, ?_⟩) hHeld ?_ ?_
      rotate_left
      · rintro w' ⟨s0_, s1_, s2_, s3_⟩
        go_simp
        with_reducible rfl
      rotate_left
      · simp only [Act.put, List.setIfInBounds_toArray, List.set_cons_zero, List.set_cons_succ, i64_w, i32_w]
        rfl
      refine take_ (i := 16) (N := (some 25)) (v := ?_) (a' := ?_) #[true, true, true, true, true, true, true, true, true, true, true, true, true, true, true, true, true, false, false, false, false, false, false, false, false, false, false, false, false, false, false, false, false, false, false, false, false, false, false, false] rfl rfl (take_ofW HT_.out HW_.out (by kernel_rfl)) (fun _ _ _ h => h) (Or.inl ⟨by rfl, ?_⟩) hHeld ?_ ?_
      rotate_left
      · rintro w' ⟨s0_, s1_, s2_, s3_⟩
        go_simp
        with_reducible rfl
      rotate_left
      · simp only [Act.put, List.setIfInBounds_toArray, List.set_cons_zero, List.set_cons_succ, i64_w, i32_w]
        rfl
      refine take_ (i := 17) (N := (some 26)) (v := ?_) (a' := ?_) #[true, true, true, true, true, true, true, true, true, true, true, true, true, true, true, true, true, true, false, false, false, false, false, false, false, false, false, false, false, false, false, false, false, false, false, false, false, false, false, false] rfl rfl (take_ofW HT_.out HW_.out (by kernel_rfl)) (fun _ _ _ h => h) (Or.inl ⟨by rfl, ?_⟩) hHeld ?_ ?_
      rotate_left
      · rintro w' ⟨s0_, s1_, s2_, s3_⟩
        go_simp
        with_reducible rfl
      rotate_left
      · simp only [Act.put, List.setIfInBounds_toArray, List.set_cons_zero, List.set_cons_succ, i64_w, i32_w]
        rfl
      refine take_ (i := 18) (N := (some 27)) (v := ?_) (a' := ?_) #[true, true, true, true, true, true, true, true, true, true, true, true, true, true, true, true, true, true, true, false, false, false, false, false, false, false, false, false, false, false, false, false, false, false, false, false, false, false, false, false] rfl rfl (take_ofW HT_.out HW_.out (by kernel_rfl)) (fun _ _ _ h => h) (Or.inl ⟨by rfl, ?_⟩) hHeld ?_ ?_
      rotate_left
      · rintro w' ⟨s0_, s1_, s2_, s3_⟩
        go_simp
        with_reducible rfl
      rotate_left
      · simp only [Act.put, List.setIfInBounds_toArray, List.set_cons_zero, List.set_cons_succ, i64_w, i32_w]
        rfl
      refine take_ (i := 19) (N := (some 28)) (v := ?_) (a' := ?_) #[true, true, true, true, true, true, true, true, true, true, true, true, true, true, true, true, true, true, true, true, false, false, false, false, false, false, false, false, false, false, false, false, false, false, false, false, false, false, false, false] rfl rfl (take_ofW HT_.out HW_.out (by kernel_rfl)) (fun _ _ _ h => h) (Or.inl ⟨by rfl, ?_⟩) hHeld ?_ ?_
      rotate_left
      · rintro w' ⟨s0_, s1_, s2_, s3_⟩
        go_simp
        with_reducible rfl
      rotate_left
      · simp only [Act.put, List.setIfInBounds_toArray, List.set_cons_zero, List.set_cons_succ, i64_w, i32_w]
        rfl
      refine take_ (i := 20) (N := (some 29)) (v := ?_) (a' := ?_) #[true, true, true, true, true, true, true, true, true, true, true, true, true, true, true, true, true, true, true, true, true, false, false, false, false, false, false, false, false, false, false, false, false, false, false, false, false, false, false, false] rfl rfl (take_ofW HT_.out HW_.out (by kernel_rfl)) (fun _ _ _ h => h) (Or.inl ⟨by rfl, ?_⟩) hHeld ?_ ?_
      rotate_left
      · rintro w' ⟨s0_, s1_, s2_, s3_⟩
        go_simp
        with_reducible rfl
      rotate_left
      · simp only [Act.put, List.setIfInBounds_toArray, List.set_cons_zero, List.set_cons_succ, i64_w, i32_w]
        rfl
      refine take_ (i := 21) (N := (some 30)) (v := ?_) (a' := ?_) #[true, true, true, true, true, true, true, true, true, true, true, true, true, true, true, true, true, true, true, true, true, true, false, false, false, false, false, false, false, false, false, false, false, false, false, false, false, false, false, false] rfl rfl (take_ofW HT_.out HW_.out (by kernel_rfl)) (fun _ _ _ h => h) (Or.inl ⟨by rfl, ?_⟩) hHeld ?_ ?_
      rotate_left
      · rintro w' ⟨s0_, s1_, s2_, s3_⟩
        go_simp
        with_reducible rfl
      rotate_left
      · simp only [Act.put, List.setIfInBounds_toArray, List.set_cons_zero, List.set_cons_succ, i64_w, i32_w]
        rfl
      refine take_ (i := 22) (N := (some 31)) (v := ?_) (a' := ?_) #[true, true, true, true, true, true, true, true, true, true, true, true, true, true, true, true, true, true, true, true, true, true, true, false, false, false, false, false, false, false, false, false, false, false, false, false, false, false, false, false] rfl rfl (take_ofW HT_.out HW_.out (by kernel_rfl)) (fun _ _ _ h => h) (Or.inl ⟨by rfl, ?_⟩) hHeld ?_ ?_
      rotate_left
      · rintro w' ⟨s0_, s1_, s2_, s3_⟩
        go_simp
        with_reducible rfl
      rotate_left
      · simp only [Act.put, List.setIfInBounds_toArray, List.set_cons_zero, List.set_cons_succ, i64_w, i32_w]
        rfl
      refine take_ (i := 23) (N := (some 32)) (v := ?_) (a' := ?_) #[true, true, true, true, true, true, true, true, true, true, true, true, true, true, true, true, true, true, true, true, true, true, true, true, false, false, false, false, false, false, false, false, false, false, false, false, false, false, false, false] rfl rfl (take_ofW HT_.out HW_.out (by kernel_rfl)) (fun _ _ _ h => h) (Or.inl ⟨by rfl, ?_⟩) hHeld ?_ ?_
      rotate_left
      · rintro w' ⟨s0_, s1_, s2_, s3_⟩
        go_simp
        with_reducible rfl
      rotate_left
      · simp only [Act.put, List.setIfInBounds_toArray, List.set_cons_zero, List.set_cons_succ, i64_w, i32_w]
        rfl
      refine take_ (i := 24) (N := (some 33)) (v := ?_) (a' := ?_) #[true, true, true, true, true, true, true, true, true, true, true, true, true, true, true, true, true, true, true, true, true, true, true, true, true, false, false, false, false, false, false, false, false, false, false, false, false, false, false, false] rfl rfl (take_ofW HT_.out HW_.out (by kernel_rfl)) (fun _ _ _ h => h) (Or.inl ⟨by rfl, ?_⟩) hHeld ?_ ?_
      rotate_left
      · rintro w' ⟨s0_, s1_, s2_, s3_⟩
        go_simp
        with_reducible rfl
      rotate_left
      · simp only [Act.put, List.setIfInBounds_toArray, List.set_cons_zero, List.set_cons_succ, i64_w, i32_w]
        rfl
      refine take_ (i := 25) (N := (some 34)) (v := ?_) (a' := ?_) #[true, true, true, true, true, true, true, true, true, true, true, true, true, true, true, true, true, true, true, true, true, true, true, true, true, true, false, false, false, false, false, false, false, false, false, false, false, false, false, false] rfl rfl (take_ofW HT_.out HW_.out (by kernel_rfl)) (fun _ _ _ h => h) (Or.inl ⟨by rfl, ?_⟩) hHeld ?_ ?_
      rotate_left
      · rintro w' ⟨s0_, s1_, s2_, s3_⟩
        go_simp
        with_reducible rfl
      rotate_left
      · simp only [Act.put, List.setIfInBounds_toArray, List.set_cons_zero, List.set_cons_succ, i64_w, i32_w]
        rfl
      refine take_ (i := 26) (N := (some 35)) (v := ?_) (a' := ?_) #[true, true, true, true, true, true, true, true, true, true, true, true, true, true, true, true, true, true, true, true, true, true, true, true, true, true, true, false, false, false, false, false, false, false, false, false, false, false, false, false] rfl rfl (take_ofW HT_.out HW_.out (by kernel_rfl)) (fun _ _ _ h => h) (Or.inl ⟨by rfl, ?_⟩) hHeld ?_ ?_
      rotate_left
      · rintro w' ⟨s0_, s1_, s2_, s3_⟩
        go_simp
        with_reducible rfl
      rotate_left
      · simp only [Act.put, List.setIfInBounds_toArray, List.set_cons_zero, List.set_cons_succ, i64_w, i32_w]
        rfl
      refine take_ (i := 27) (N := (some 36)) (v := ?_) (a' := ?_) #[true, true, true, true, true, true, true, true, true, true, true, true, true, true, true, true, true, true, true, true, true, true, true, true, true, true, true, true, false, false, false, false, false, false, false, false, false, false, false, false] rfl rfl (take_ofW HT_.out HW_.out (by kernel_rfl)) (fun _ _ _ h => h) (Or.inl ⟨by rfl, ?_⟩) hHeld ?_ ?_
      rotate_left
      · rintro w' ⟨s0_, s1_, s2_, s3_⟩
        go_simp
        with_reducible rfl
      rotate_left
      · simp only [Act.put, List.setIfInBounds_toArray, List.set_cons_zero, List.set_cons_succ, i64_w, i32_w]
        rfl
      refine take_ (i := 28) (N := (some 37)) (v := ?_) (a' := ?_) #[true, true, true, true, true, true, true, true, true, true, true, true, true, true, true, true, true, true, true, true, true, true, true, true, true, true, true, true, true, false, false, false, false, false, false, false, false, false, false, false] rfl rfl (take_ofW HT_.out HW_.out (by kernel_rfl)) (fun _ _ _ h => h) (Or.inl ⟨by rfl, ?_⟩) hHeld ?_ ?_
      rotate_left
      · rintro w' ⟨s0_, s1_, s2_, s3_⟩
        go_simp
        with_reducible rfl
      rotate_left
      · simp only [Act.put, List.setIfInBounds_toArray, List.set_cons_zero, List.set_cons_succ, i64_w, i32_w]
        rfl
      refine take_ (i := 29) (N := (some 38)) (v := ?_) (a' := ?_) #[true, true, true, true, true, true, true, true, true, true, true, true, true, true, true, true, true, true, true, true, true, true, true, true, true, true, true, true, true, true, false, false, false, false, false, false, false, false, false, false] rfl rfl (take_ofW HT_.out HW_.out (by kernel_rfl)) (fun _ _ _ h => h) (Or.inl ⟨by rfl, ?_⟩) hHeld ?_ ?_
      rotate_left
      · rintro w' ⟨s0_, s1_, s2_, s3_⟩
        go_simp
        with_reducible rfl
      rotate_left
      · simp only [Act.put, List.setIfInBounds_toArray, List.set_cons_zero, List.set_cons_succ, i64_w, i32_w]
        rfl
      refine take_ (i := 30) (N := (some 39)) (v := ?_) (a' := ?_) #[true, true, true, true, true, true, true, true, true, true, true, true, true, true, true, true, true, true, true, true, true, true, true, true, true, true, true, true, true, true, true, false, false, false, false, false, false, false, false, false] rfl rfl (take_ofW HT_.out HW_.out (by kernel_rfl)) (fun _ _ _ h => h) (Or.inl ⟨by rfl, ?_⟩) hHeld ?_ ?_
      rotate_left
      · rintro w' ⟨s0_, s1_, s2_, s3_⟩
        go_simp
        with_reducible rfl
      rotate_left
      · simp only [Act.put, List.setIfInBounds_toArray, List.set_cons_zero, List.set_cons_succ, i64_w, i32_w]
        rfl
      refine take_ (i := 31) (N := (some 40)) (v := ?_) (a' := ?_) #[true, true, true, true, true, true, true, true, true, true, true, true, true, true, true, true, true, true, true, true, true, true, true, true, true, true, true, true, true, true, true, true, false, false, false, false, false, false, false, false] rfl rfl (take_ofW HT_.out HW_.out (by kernel_rfl)) (fun _ _ _ h => h) (Or.inl ⟨by rfl, ?_⟩) hHeld ?_ ?_
      rotate_left
      · rintro w' ⟨s0_, s1_, s2_, s3_⟩
        go_simp
        with_reducible rfl
      rotate_left
      · simp only [Act.put, List.setIfInBounds_toArray, List.set_cons_zero, List.set_cons_succ, i64_w, i32_w]
        rfl
      refine take_ (i := 32) (N := (some 41)) (v := ?_) (a' := ?_) #[true, true, true, true, true, true, true, true, true, true, true, true, true, true, true, true, true, true, true, true, true, true, true, true, true, true, true, true, true, true, true, true, true, false, false, false, false, false, false, false] rfl rfl (take_ofW HT_.out HW_.out (by kernel_rfl)) (fun _ _ _ h => h) (Or.inl ⟨by rfl, ?_⟩) hHeld ?_ ?_
      rotate_left
      · rintro w' ⟨s0_, s1_, s2_, s3_⟩
        go_simp
        with_reducible rfl
      rotate_left
      · simp only [Act.put, List.setIfInBounds_toArray, List.set_cons_zero, List.set_cons_succ, i64_w, i32_w]
        rfl
      refine take_ (i := 33) (N := (some 42)) (v := ?_) (a' := ?_) #[true, true, true, true, true, true, true, true, true, true, true, true, true, true, true, true, true, true, true, true, true, true, true, true, true, true, true, true, true, true, true, true, true, true, false, false, false, false, false, false] rfl rfl (take_ofW HT_.out HW_.out (by kernel_rfl)) (fun _ _ _ h => h) (Or.inl ⟨by rfl, ?_⟩) hHeld ?_ ?_
      rotate_left
      · rintro w' ⟨s0_, s1_, s2_, s3_⟩
        go_simp
        with_reducible rfl
      rotate_left
      · simp only [Act.put, List.setIfInBounds_toArray, List.set_cons_zero, List.set_cons_succ, i64_w, i32_w]
        rfl
      refine take_ (i := 34) (N := (some 43)) (v := ?_) (a' := ?_) #[true, true, true, true, true, true, true, true, true, true, true, true, true, true, true, true, true, true, true, true, true, true, true, true, true, true, true, true, true, true, true, true, true, true, true, false, false, false, false, false] rfl rfl (take_ofW HT_.out HW_.out (by kernel_rfl)) (fun _ _ _ h => h) (Or.inl ⟨by rfl, ?_⟩) hHeld ?_ ?_
      rotate_left
      · rintro w' ⟨s0_, s1_, s2_, s3_⟩
        go_simp
        with_reducible rfl
      rotate_left
      · simp only [Act.put, List.setIfInBounds_toArray, List.set_cons_zero, List.set_cons_succ, i64_w, i32_w]
        rfl
      refine take_ (i := 35) (N := (some 44)) (v := ?_) (a' := ?_) #[true, true, true, true, true, true, true, true, true, true, true, true, true, true, true, true, true, true, true, true, true, true, true, true, true, true, true, true, true, true, true, true, true, true, true, true, false, false, false, false] rfl rfl (take_ofW HT_.out HW_.out (by kernel_rfl)) (fun _ _ _ h => h) (Or.inl ⟨by rfl, ?_⟩) hHeld ?_ ?_
      rotate_left
      · rintro w' ⟨s0_, s1_, s2_, s3_⟩
        go_simp
        with_reducible rfl
      rotate_left
      · simp only [Act.put, List.setIfInBounds_toArray, List.set_cons_zero, List.set_cons_succ, i64_w, i32_w]
        rfl
      refine take_ (i := 36) (N := (some 45)) (v := ?_) (a' := ?_) #[true, true, true, true, true, true, true, true, true, true, true, true, true, true, true, true, true, true, true, true, true, true, true, true, true, true, true, true, true, true, true, true, true, true, true, true, true, false, false, false] rfl rfl (take_ofW HT_.out HW_.out (by kernel_rfl)) (fun _ _ _ h => h) (Or.inl ⟨by rfl, ?_⟩) hHeld ?_ ?_
      rotate_left
      · rintro w' ⟨s0_, s1_, s2_, s3_⟩
        go_simp
        with_reducible rfl
      rotate_left
      · simp only [Act.put, List.setIfInBounds_toArray, List.set_cons_zero, List.set_cons_succ, i64_w, i32_w]
        rfl
      refine take_ (i := 37) (N := (some 46)) (v := ?_) (a' := ?_) #[true, true, true, true, true, true, true, true, true, true, true, true, true, true, true, true, true, true, true, true, true, true, true, true, true, true, true, true, true, true, true, true, true, true, true, true, true, true, false, false] rfl rfl (take_ofW HT_.out HW_.out (by kernel_rfl)) (fun _ _ _ h => h) (Or.inl ⟨by rfl, ?_⟩) hHeld ?_ ?_
      rotate_left
      · rintro w' ⟨s0_, s1_, s2_, s3_⟩
        go_simp
        with_reducible rfl
      rotate_left
      · simp only [Act.put, List.setIfInBounds_toArray, List.set_cons_zero, List.set_cons_succ, i64_w, i32_w]
        rfl
      refine take_ (i := 38) (N := (some 47)) (v := ?_) (a' := ?_) #[true, true, true, true, true, true, true, true, true, true, true, true, true, true, true, true, true, true, true, true, true, true, true, true, true, true, true, true, true, true, true, true, true, true, true, true, true, true, true, false] rfl rfl (take_ofW HT_.out HW_.out (by kernel_rfl)) (fun _ _ _ h => h) (Or.inl ⟨by rfl, ?_⟩) hHeld ?_ ?_
      rotate_left
      · rintro w' ⟨s0_, s1_, s2_, s3_⟩
        go_simp
        with_reducible rfl
      rotate_left
      · simp only [Act.put, List.setIfInBounds_toArray, List.set_cons_zero, List.set_cons_succ, i64_w, i32_w]
        rfl
      refine one_ (i := 39) (N := none) #[true, true, true, true, true, true, true, true, true, true, true, true, true, true, true, true, true, true, true, true, true, true, true, true, true, true, true, true, true, true, true, true, true, true, true, true, true, true, true, true] rfl rfl (one_of HT_.out (by kernel_rfl)) (by decide) (fun K hK => ?_)
      refine skip_ (by rfl) rfl (w1 := ?_) ?_ ?_
      rotate_left 1
      · (go_simp; first | (with_reducible rfl) | trace_state)
      refine hK.out _ _ ⟨C0.out _ (by repeat (first | exact KS.out.2.2 | apply below_drew | apply pw_below_drewN | refine sc_below ?_ _ _)), C1.out _ (by repeat (first | exact KS.out.2.2 | apply below_drew | apply pw_below_drewN | refine sc_below ?_ _ _)), C2.out _ (by repeat (first | exact KS.out.2.2 | apply below_drew | apply pw_below_drewN | refine sc_below ?_ _ _)), C3.out _ (by repeat (first | exact KS.out.2.2 | apply below_drew | apply pw_below_drewN | refine sc_below ?_ _ _))⟩ (fun hHeld => ?_)
      clear hK K
      refine done_ (done_of HT_.out (by kernel_rfl)) ?_
      clear w0 w1 w2 w3 v1 v2 v3
      go_wp2
      rw [HV.out]
      go_roundw
      case rel => exact ⟨k + 1, by omega, by simp, ⟨sc_drew HP.out⟩⟩
      case measure => simp [intOf]; omega
    · obtain rfl : k = 16 := by omega
      clear hlt hk
      go_wp2
      go_loopw [5] (fun v5 wr => ∃ k : Nat, 16 ≤ k ∧ k ≤ 64 ∧ v5 = .int .i64 k ∧ Aside0 (Sc w wr (schL xs k))) (fun v5 _ => 64 - (intOf v5).toNat)
      case atStart => exact ⟨16, by omega, by omega, rfl, KS⟩
      case round =>
        clear KS
        obtain ⟨k, hk0, hk, rfl, KS⟩ := hrel
        by_cases hlt : k < 64
        · have hln := schL_len xs k
          obtain ⟨n1, n2⟩ := sc_next KS.out (by omega)
          rw [hln] at n1 n2
          obtain ⟨j2, hj2⟩ : ∃ j, k - 2 = j := ⟨_, rfl⟩
          have c2 := sc_cell KS.out (j := j2) (by omega)
          obtain ⟨x2, hx2⟩ : ∃ x, (schL xs k).getD j2 0 = x := ⟨_, rfl⟩
          rw [hx2] at c2
          have C2 : Aside0 (∀ W, Below wr.heap.size wr W → W.cell? ⟨w.heap.size + 1, j2, none⟩ = some (.int .u32 (x2.toNat : Int))) := ⟨fun W hb => fl_low c2 hb⟩
          have N2 : Aside0 (j2 ≠ k) := ⟨by omega⟩
          have v2 : ((k : Int) - 2).toNat = j2 := by omega
          have p2 : 0 ≤ (k : Int) - 2 := by omega
          have o2 : (2 : Int) ≤ (k : Int) := by omega
          have y2 : (k : Int) < 66 := by omega
          have u2 : (k : Int) - 2 < 64 := by omega
          obtain ⟨j7, hj7⟩ : ∃ j, k - 7 = j := ⟨_, rfl⟩
          have c7 := sc_cell KS.out (j := j7) (by omega)
          obtain ⟨x7, hx7⟩ : ∃ x, (schL xs k).getD j7 0 = x := ⟨_, rfl⟩
          rw [hx7] at c7
          have C7 : Aside0 (∀ W, Below wr.heap.size wr W → W.cell? ⟨w.heap.size + 1, j7, none⟩ = some (.int .u32 (x7.toNat : Int))) := ⟨fun W hb => fl_low c7 hb⟩
          have N7 : Aside0 (j7 ≠ k) := ⟨by omega⟩
          have v7 : ((k : Int) - 7).toNat = j7 := by omega
          have p7 : 0 ≤ (k : Int) - 7 := by omega
          have o7 : (7 : Int) ≤ (k : Int) := by omega
          have y7 : (k : Int) < 71 := by omega
          have u7 : (k : Int) - 7 < 64 := by omega
          obtain ⟨j15, hj15⟩ : ∃ j, k - 15 = j := ⟨_, rfl⟩
          have c15 := sc_cell KS.out (j := j15) (by omega)
          obtain ⟨x15, hx15⟩ : ∃ x, (schL xs k).getD j15 0 = x := ⟨_, rfl⟩
          rw [hx15] at c15
          have C15 : Aside0 (∀ W, Below wr.heap.size wr W → W.cell? ⟨w.heap.size + 1, j15, none⟩ = some (.int .u32 (x15.toNat : Int))) := ⟨fun W hb => fl_low c15 hb⟩
          have N15 : Aside0 (j15 ≠ k) := ⟨by omega⟩
          have v15 : ((k : Int) - 15).toNat = j15 := by omega
          have p15 : 0 ≤ (k : Int) - 15 := by omega
          have o15 : (15 : Int) ≤ (k : Int) := by omega
          have y15 : (k : Int) < 79 := by omega
          have u15 : (k : Int) - 15 < 64 := by omega
          obtain ⟨j16, hj16⟩ : ∃ j, k - 16 = j := ⟨_, rfl⟩
          have c16 := sc_cell KS.out (j := j16) (by omega)
          obtain ⟨x16, hx16⟩ : ∃ x, (schL xs k).getD j16 0 = x := ⟨_, rfl⟩
          rw [hx16] at c16
          have C16 : Aside0 (∀ W, Below wr.heap.size wr W → W.cell? ⟨w.heap.size + 1, j16, none⟩ = some (.int .u32 (x16.toNat : Int))) := ⟨fun W hb => fl_low c16 hb⟩
          have N16 : Aside0 (j16 ≠ k) := ⟨by omega⟩
          have v16 : ((k : Int) - 16).toNat = j16 := by omega
          have p16 : 0 ≤ (k : Int) - 16 := by omega
          have o16 : (16 : Int) ≤ (k : Int) := by omega
          have y16 : (k : Int) < 80 := by omega
          have u16 : (k : Int) - 16 < 64 := by omega
          have u4 : (k : Int) < 64 := by omega
          have hp := sc_at KS.out hlt (sS1 x2 + x7 + sS0 x15 + x16)
          have hs := sch_hi xs (show ¬ k < 16 by omega)
          rw [hj2, hj7, hj15, hj16, hx2, hx7, hx15, hx16] at hs
          rw [← hs] at hp
          have HP := Aside0.mk hp
          have HV : Aside0 ((((((sS1 x2).toNat : Int) + (x7.toNat : Int)) % 4294967296 + ((sS0 x15).toNat : Int)) % 4294967296 + (x16.toNat : Int)) % 4294967296 = ((sS1 x2 + x7 + sS0 x15 + x16).toNat : Int)) := ⟨by rw [sh_add, sh_add, sh_add]⟩
          have HZ := Aside0.mk (Below.refl wr.heap.size wr)
          have b2 := x_lt 32 (sS1 x2)
          have b7 := x_lt 32 x7
          have b15 := x_lt 32 (sS0 x15)
          have b16 := x_lt 32 x16
          clear hj2 hj7 hj15 hj16 hx2 hx7 hx15 hx16 c2 c7 c15 c16 hp hs hln
          go_wp2
          have w2 : wrap64 ((k : Int) - 2) = (k : Int) - 2 := x_w64 (by omega) (by omega)
          have w7 : wrap64 ((k : Int) - 7) = (k : Int) - 7 := x_w64 (by omega) (by omega)
          have w15 : wrap64 ((k : Int) - 15) = (k : Int) - 15 := x_w64 (by omega) (by omega)
          have w16 : wrap64 ((k : Int) - 16) = (k : Int) - 16 := x_w64 (by omega) (by omega)
          refine start_ (n := 24) (S := fun w' => w'.cell? ⟨w.heap.size + 1, j2, none⟩ = some (.int .u32 (x2.toNat : Int)) ∧ w'.cell? ⟨w.heap.size + 1, j7, none⟩ = some (.int .u32 (x7.toNat : Int)) ∧ w'.cell? ⟨w.heap.size + 1, j15, none⟩ = some (.int .u32 (x15.toNat : Int)) ∧ w'.cell? ⟨w.heap.size + 1, j16, none⟩ = some (.int .u32 (x16.toNat : Int))) (ds := []) #[false, false, false, false, false, false, false, false, false, false, false, false, false, false, false, false, false, false, false, false, false, false, false, false] (by kernel_rfl) rfl rfl ⟨(by first | (refine C2.out _ ?_; (repeat (first | exact HZ.out | apply below_drew | apply pw_below_drewN)); done) | (refine sc_other (C2.out _ ?_) N2.out; (repeat (first | exact HZ.out | apply below_drew | apply pw_below_drewN)); done)), (by first | (refine C7.out _ ?_; (repeat (first | exact HZ.out | apply below_drew | apply pw_below_drewN)); done) | (refine sc_other (C7.out _ ?_) N7.out; (repeat (first | exact HZ.out | apply below_drew | apply pw_below_drewN)); done)), (by first | (refine C15.out _ ?_; (repeat (first | exact HZ.out | apply below_drew | apply pw_below_drewN)); done) | (refine sc_other (C15.out _ ?_) N15.out; (repeat (first | exact HZ.out | apply below_drew | apply pw_below_drewN)); done)), (by first | (refine C16.out _ ?_; (repeat (first | exact HZ.out | apply below_drew | apply pw_below_drewN)); done) | (refine sc_other (C16.out _ ?_) N16.out; (repeat (first | exact HZ.out | apply below_drew | apply pw_below_drewN)); done))⟩ (fun hHeld => ?_); refine with_tabW sc10.tab10 sc10.bits10 (fun HT_ HW_ => ?_)
          refine take_ (i := 0) (N := (some 53)) (v := ?_) (a' := ?_) #[true, false, false, false, false, false, false, false, false, false, false, false, false, false, false, false, false, false, false, false, false, false, false, false] rfl rfl (take_ofW HT_.out HW_.out (by kernel_rfl)) (fun _ _ _ h => h) (Or.inl ⟨by rfl, ?_⟩) hHeld ?_ ?_
          rotate_left
          · rintro w' ⟨s0_, s1_, s2_, s3_⟩
            go_simp
            with_reducible rfl
          rotate_left
          · simp only [Act.put, List.setIfInBounds_toArray, List.set_cons_zero, List.set_cons_succ, i64_w, i32_w]
            rfl
          refine take_ (i := 1) (N := (some 54)) (v := ?_) (a' := ?_) #[true, true, false, false, false, false, false, false, false, false, false, false, false, false, false, false, false, false, false, false, false, false, false, false] rfl rfl (take_ofW HT_.out HW_.out (by kernel_rfl)) (fun _ _ _ h => h) (Or.inl ⟨by rfl, ?_⟩) hHeld ?_ ?_
          rotate_left
          · rintro w' ⟨s0_, s1_, s2_, s3_⟩
            go_simp
            with_reducible rfl
          rotate_left
          · simp only [Act.put, List.setIfInBounds_toArray, List.set_cons_zero, List.set_cons_succ, i64_w, i32_w]
            rfl
          refine take_ (i := 2) (N := (some 55)) (v := ?_) (a' := ?_) #[true, true, true, false, false, false, false, false, false, false, false, false, false, false, false, false, false, false, false, false, false, false, false, false] rfl rfl (take_ofW HT_.out HW_.out (by kernel_rfl)) (fun _ _ _ h => h) (Or.inl ⟨by rfl, ?_⟩) hHeld ?_ ?_
          rotate_left
          · rintro w' ⟨s0_, s1_, s2_, s3_⟩
            go_simp
            with_reducible rfl
          rotate_left
          · simp only [Act.put, List.setIfInBounds_toArray, List.set_cons_zero, List.set_cons_succ, i64_w, i32_w]
            rfl
          refine take_ (i := 3) (N := (some 56)) (v := ?_) (a' := ?_) #[true, true, true, true, false, false, false, false, false, false, false, false, false, false, false, false, false, false, false, false, false, false, false, false] rfl rfl (take_ofW HT_.out HW_.out (by kernel_rfl)) (fun _ _ _ h => h) (Or.inl ⟨by rfl, ?_⟩) hHeld ?_ ?_
          rotate_left
          · rintro w' ⟨s0_, s1_, s2_, s3_⟩
            go_simp
            with_reducible rfl
          rotate_left
          · simp only [Act.put, List.setIfInBounds_toArray, List.set_cons_zero, List.set_cons_succ, i64_w, i32_w]
            rfl
          refine take_ (i := 4) (N := (some 57)) (v := ?_) (a' := ?_) #[true, true, true, true, true, false, false, false, false, false, false, false, false, false, false, false, false, false, false, false, false, false, false, false] rfl rfl (take_ofW HT_.out HW_.out (by kernel_rfl)) (fun _ _ _ h => h) (Or.inl ⟨by rfl, ?_⟩) hHeld ?_ ?_
          rotate_left
          · rintro w' ⟨s0_, s1_, s2_, s3_⟩
            go_simp
            with_reducible rfl
          rotate_left
          · simp only [Act.put, List.setIfInBounds_toArray, List.set_cons_zero, List.set_cons_succ, i64_w, i32_w]
            rfl
          refine take_ (i := 6) (N := (some 59)) (v := ?_) (a' := ?_) #[true, true, true, true, true, false, true, false, false, false, false, false, false, false, false, false, false, false, false, false, false, false, false, false] rfl rfl (take_ofW HT_.out HW_.out (by kernel_rfl)) (fun _ _ _ h => h) (Or.inl ⟨by rfl, ?_⟩) hHeld ?_ ?_
          rotate_left
          · rintro w' ⟨s0_, s1_, s2_, s3_⟩
            go_simp
            with_reducible rfl
          rotate_left
          · simp only [Act.put, List.setIfInBounds_toArray, List.set_cons_zero, List.set_cons_succ, i64_w, i32_w]
            rfl
          refine take_ (i := 7) (N := (some 60)) (v := ?_) (a' := ?_) #[true, true, true, true, true, false, true, true, false, false, false, false, false, false, false, false, false, false, false, false, false, false, false, false] rfl rfl (take_ofW HT_.out HW_.out (by kernel_rfl)) (fun _ _ _ h => h) (Or.inl ⟨by rfl, ?_⟩) hHeld ?_ ?_
          rotate_left
          · rintro w' ⟨s0_, s1_, s2_, s3_⟩
            go_simp
            with_reducible rfl
          rotate_left
          · simp only [Act.put, List.setIfInBounds_toArray, List.set_cons_zero, List.set_cons_succ, i64_w, i32_w]
            rfl
          refine take_ (i := 8) (N := (some 61)) (v := ?_) (a' := ?_) #[true, true, true, true, true, false, true, true, true, false, false, false, false, false, false, false, false, false, false, false, false, false, false, false] rfl rfl (take_ofW HT_.out HW_.out (by kernel_rfl)) (fun _ _ _ h => h) (Or.inl ⟨by rfl, ?_⟩) hHeld ?_ ?_
          rotate_left
          · rintro w' ⟨s0_, s1_, s2_, s3_⟩
            go_simp
            with_reducible rfl
          rotate_left
          · simp only [Act.put, List.setIfInBounds_toArray, List.set_cons_zero, List.set_cons_succ, i64_w, i32_w]
            rfl
          refine take_ (i := 9) (N := (some 62)) (v := ?_) (a' := ?_) #[true, true, true, true, true, false, true, true, true, true, false, false, false, false, false, false, false, false, false, false, false, false, false, false] rfl rfl (take_ofW HT_.out HW_.out (by kernel_rfl)) (fun _ _ _ h => h) (Or.inl ⟨by rfl, ?_⟩) hHeld ?_ ?_
          rotate_left
          · rintro w' ⟨s0_, s1_, s2_, s3_⟩
            go_simp
            with_reducible rfl
          rotate_left
          · simp only [Act.put, List.setIfInBounds_toArray, List.set_cons_zero, List.set_cons_succ, i64_w, i32_w]
            rfl
          refine take_ (i := 11) (N := (some 64)) (v := ?_) (a' := ?_) #[true, true, true, true, true, false, true, true, true, true, false, true, false, false, false, false, false, false, false, false, false, false, false, false] rfl rfl (take_ofW HT_.out HW_.out (by kernel_rfl)) (fun _ _ _ h => h) (Or.inl ⟨by rfl, ?_⟩) hHeld ?_ ?_
          rotate_left
          · rintro w' ⟨s0_, s1_, s2_, s3_⟩
            go_simp
            with_reducible rfl
          rotate_left
          · simp only [Act.put, List.setIfInBounds_toArray, List.set_cons_zero, List.set_cons_succ, i64_w, i32_w]
            rfl
          refine take_ (i := 12) (N := (some 65)) (v := ?_) (a' := ?_) #[true, true, true, true, true, false, true, true, true, true, false, true, true, false, false, false, false, false, false, false, false, false, false, false] rfl rfl (take_ofW HT_.out HW_.out (by kernel_rfl)) (fun _ _ _ h => h) (Or.inl ⟨by rfl, ?_⟩) hHeld ?_ ?_
          rotate_left
          · rintro w' ⟨s0_, s1_, s2_, s3_⟩
            go_simp
            with_reducible rfl
          rotate_left
          · simp only [Act.put, List.setIfInBounds_toArray, List.set_cons_zero, List.set_cons_succ, i64_w, i32_w]
            rfl
          refine take_ (i := 13) (N := (some 66)) (v := ?_) (a' := ?_) #[true, true, true, true, true, false, true, true, true, true, false, true, true, true, false, false, false, false, false, false, false, false, false, false] rfl rfl (take_ofW HT_.out HW_.out (by kernel_rfl)) (fun _ _ _ h => h) (Or.inl ⟨by rfl, ?_⟩) hHeld ?_ ?_
          rotate_left
          · rintro w' ⟨s0_, s1_, s2_, s3_⟩
            go_simp
            with_reducible rfl
          rotate_left
          · simp only [Act.put, List.setIfInBounds_toArray, List.set_cons_zero, List.set_cons_succ, i64_w, i32_w]
            rfl
          refine take_ (i := 14) (N := (some 67)) (v := ?_) (a' := ?_) #[true, true, true, true, true, false, true, true, true, true, false, true, true, true, true, false, false, false, false, false, false, false, false, false] rfl rfl (take_ofW HT_.out HW_.out (by kernel_rfl)) (fun _ _ _ h => h) (Or.inl ⟨by rfl, ?_⟩) hHeld ?_ ?_
          rotate_left
          · rintro w' ⟨s0_, s1_, s2_, s3_⟩
            go_simp
            with_reducible rfl
          rotate_left
          · simp only [Act.put, List.setIfInBounds_toArray, List.set_cons_zero, List.set_cons_succ, i64_w, i32_w]
            rfl
          refine take_ (i := 17) (N := (some 70)) (v := ?_) (a' := ?_) #[true, true, true, true, true, false, true, true, true, true, false, true, true, true, true, false, false, true, false, false, false, false, false, false] rfl rfl (take_ofW HT_.out HW_.out (by kernel_rfl)) (fun _ _ _ h => h) (Or.inl ⟨by rfl, ?_⟩) hHeld ?_ ?_
          rotate_left
          · rintro w' ⟨s0_, s1_, s2_, s3_⟩
            go_simp
            with_reducible rfl
          rotate_left
          · simp only [Act.put, List.setIfInBounds_toArray, List.set_cons_zero, List.set_cons_succ, i64_w, i32_w]
            rfl
          refine take_ (i := 18) (N := (some 71)) (v := ?_) (a' := ?_) #[true, true, true, true, true, false, true, true, true, true, false, true, true, true, true, false, false, true, true, false, false, false, false, false] rfl rfl (take_ofW HT_.out HW_.out (by kernel_rfl)) (fun _ _ _ h => h) (Or.inl ⟨by rfl, ?_⟩) hHeld ?_ ?_
          rotate_left
          · rintro w' ⟨s0_, s1_, s2_, s3_⟩
            go_simp
            with_reducible rfl
          rotate_left
          · simp only [Act.put, List.setIfInBounds_toArray, List.set_cons_zero, List.set_cons_succ, i64_w, i32_w]
            rfl
          refine take_ (i := 19) (N := (some 72)) (v := ?_) (a' := ?_) #[true, true, true, true, true, false, true, true, true, true, false, true, true, true, true, false, false, true, true, true, false, false, false, false] rfl rfl (take_ofW HT_.out HW_.out (by kernel_rfl)) (fun _ _ _ h => h) (Or.inl ⟨by rfl, ?_⟩) hHeld ?_ ?_
          rotate_left
          · rintro w' ⟨s0_, s1_, s2_, s3_⟩
            go_simp
            with_reducible rfl
          rotate_left
          · simp only [Act.put, List.setIfInBounds_toArray, List.set_cons_zero, List.set_cons_succ, i64_w, i32_w]
            rfl
          refine take_ (i := 20) (N := (some 73)) (v := ?_) (a' := ?_) #[true, true, true, true, true, false, true, true, true, true, false, true, true, true, true, false, false, true, true, true, true, false, false, false] rfl rfl (take_ofW HT_.out HW_.out (by kernel_rfl)) (fun _ _ _ h => h) (Or.inl ⟨by rfl, ?_⟩) hHeld ?_ ?_
          rotate_left
          · rintro w' ⟨s0_, s1_, s2_, s3_⟩
            go_simp
            with_reducible rfl
          rotate_left
          · simp only [Act.put, List.setIfInBounds_toArray, List.set_cons_zero, List.set_cons_succ, i64_w, i32_w]
            rfl
          refine one_ (i := 5) (N := (some 58)) #[true, true, true, true, true, true, true, true, true, true, false, true, true, true, true, false, false, true, true, true, true, false, false, false] rfl rfl (one_of HT_.out (by kernel_rfl)) (by decide) (fun K hK => ?_)
          refine goes_ Try.func112 (by kernel_rfl) rfl #[.int .u32 (x2.toNat : Int)] (by rfl) rfl rfl (by first | rfl | (simp only [List.map_toArray, List.map_cons, List.map_nil]; try rfl)) ?_
          (with_reducible refine (sh_small1 x2 _).mono ?_)
          rintro e_ w_ ⟨rfl, rfl⟩
          refine ⟨_, rfl, ?_⟩
          refine hK.out _ _ ⟨(by first | (refine C2.out _ ?_; (repeat (first | exact HZ.out | apply below_drew | apply pw_below_drewN)); done) | (refine sc_other (C2.out _ ?_) N2.out; (repeat (first | exact HZ.out | apply below_drew | apply pw_below_drewN)); done)), (by first | (refine C7.out _ ?_; (repeat (first | exact HZ.out | apply below_drew | apply pw_below_drewN)); done) | (refine sc_other (C7.out _ ?_) N7.out; (repeat (first | exact HZ.out | apply below_drew | apply pw_below_drewN)); done)), (by first | (refine C15.out _ ?_; (repeat (first | exact HZ.out | apply below_drew | apply pw_below_drewN)); done) | (refine sc_other (C15.out _ ?_) N15.out; (repeat (first | exact HZ.out | apply below_drew | apply pw_below_drewN)); done)), (by first | (refine C16.out _ ?_; (repeat (first | exact HZ.out | apply below_drew | apply pw_below_drewN)); done) | (refine sc_other (C16.out _ ?_) N16.out; (repeat (first | exact HZ.out | apply below_drew | apply pw_below_drewN)); done))⟩ (fun hHeld => ?_)
          clear hK K
          refine norm_ (a' := ?_) ?_ ?_
          rotate_left
          · show Act.put _ (some 58) _ = _
            simp only [Act.put, List.setIfInBounds_toArray, List.set_cons_zero, List.set_cons_succ, i64_w, i32_w]
            rfl
          refine take_ (i := 10) (N := (some 63)) (v := ?_) (a' := ?_) #[true, true, true, true, true, true, true, true, true, true, true, true, true, true, true, false, false, true, true, true, true, false, false, false] rfl rfl (take_ofW HT_.out HW_.out (by kernel_rfl)) (fun _ _ _ h => h) (Or.inl ⟨by rfl, ?_⟩) hHeld ?_ ?_
          rotate_left
          · rintro w' ⟨s0_, s1_, s2_, s3_⟩
            go_simp
            with_reducible rfl
          rotate_left
          · simp only [Act.put, List.setIfInBounds_toArray, List.set_cons_zero, List.set_cons_succ, i64_w, i32_w]
            rfl
          refine one_ (i := 15) (N := (some 68)) #[true, true, true, true, true, true, true, true, true, true, true, true, true, true, true, true, false, true, true, true, true, false, false, false] rfl rfl (one_of HT_.out (by kernel_rfl)) (by decide) (fun K hK => ?_)
          refine goes_ Try.func113 (by kernel_rfl) rfl #[.int .u32 (x15.toNat : Int)] (by rfl) rfl rfl (by first | rfl | (simp only [List.map_toArray, List.map_cons, List.map_nil]; try rfl)) ?_
          (with_reducible refine (sh_small0 x15 _).mono ?_)
          rintro e_ w_ ⟨rfl, rfl⟩
          refine ⟨_, rfl, ?_⟩
          refine hK.out _ _ ⟨(by first | (refine C2.out _ ?_; (repeat (first | exact HZ.out | apply below_drew | apply pw_below_drewN)); done) | (refine sc_other (C2.out _ ?_) N2.out; (repeat (first | exact HZ.out | apply below_drew | apply pw_below_drewN)); done)), (by first | (refine C7.out _ ?_; (repeat (first | exact HZ.out | apply below_drew | apply pw_below_drewN)); done) | (refine sc_other (C7.out _ ?_) N7.out; (repeat (first | exact HZ.out | apply below_drew | apply pw_below_drewN)); done)), (by first | (refine C15.out _ ?_; (repeat (first | exact HZ.out | apply below_drew | apply pw_below_drewN)); done) | (refine sc_other (C15.out _ ?_) N15.out; (repeat (first | exact HZ.out | apply below_drew | apply pw_below_drewN)); done)), (by first | (refine C16.out _ ?_; (repeat (first | exact HZ.out | apply below_drew | apply pw_below_drewN)); done) | (refine sc_other (C16.out _ ?_) N16.out; (repeat (first | exact HZ.out | apply below_drew | apply pw_below_drewN)); done))⟩ (fun hHeld => ?_)
          clear hK K
          refine norm_ (a' := ?_) ?_ ?_
          rotate_left
          · show Act.put _ (some 68) _ = _
            simp only [Act.put, List.setIfInBounds_toArray, List.set_cons_zero, List.set_cons_succ, i64_w, i32_w]
            rfl
          refine take_ (i := 16) (N := (some 69)) (v := ?_) (a' := ?_) #[true, true, true, true, true, true, true, true, true, true, true, true, true, true, true, true, true, true, true, true, true, false, false, false] rfl rfl (take_ofW HT_.out HW_.out (by kernel_rfl)) (fun _ _ _ h => h) (Or.inl ⟨by rfl, ?_⟩) hHeld ?_ ?_
          rotate_left
          · rintro w' ⟨s0_, s1_, s2_, s3_⟩
            go_simp
            with_reducible rfl
          rotate_left
          · simp only [Act.put, List.setIfInBounds_toArray, List.set_cons_zero, List.set_cons_succ, i64_w, i32_w]
            rfl
          refine take_ (i := 21) (N := (some 74)) (v := ?_) (a' := ?_) #[true, true, true, true, true, true, true, true, true, true, true, true, true, true, true, true, true, true, true, true, true, true, false, false] rfl rfl (take_ofW HT_.out HW_.out (by kernel_rfl)) (fun _ _ _ h => h) (Or.inl ⟨by rfl, ?_⟩) hHeld ?_ ?_
          rotate_left
          · rintro w' ⟨s0_, s1_, s2_, s3_⟩
            go_simp
            with_reducible rfl
          rotate_left
          · simp only [Act.put, List.setIfInBounds_toArray, List.set_cons_zero, List.set_cons_succ, i64_w, i32_w]
            rfl
          refine take_ (i := 22) (N := (some 75)) (v := ?_) (a' := ?_) #[true, true, true, true, true, true, true, true, true, true, true, true, true, true, true, true, true, true, true, true, true, true, true, false] rfl rfl (take_ofW HT_.out HW_.out (by kernel_rfl)) (fun _ _ _ h => h) (Or.inl ⟨by rfl, ?_⟩) hHeld ?_ ?_
          rotate_left
          · rintro w' ⟨s0_, s1_, s2_, s3_⟩
            go_simp
            with_reducible rfl
          rotate_left
          · simp only [Act.put, List.setIfInBounds_toArray, List.set_cons_zero, List.set_cons_succ, i64_w, i32_w]
            rfl
          refine one_ (i := 23) (N := none) #[true, true, true, true, true, true, true, true, true, true, true, true, true, true, true, true, true, true, true, true, true, true, true, true] rfl rfl (one_of HT_.out (by kernel_rfl)) (by decide) (fun K hK => ?_)
          refine skip_ (by rfl) rfl (w1 := ?_) ?_ ?_
          rotate_left 1
          · (go_simp; first | (with_reducible rfl) | trace_state)
          refine hK.out _ _ ⟨(by first | (refine C2.out _ ?_; (repeat (first | exact HZ.out | apply below_drew | apply pw_below_drewN)); done) | (refine sc_other (C2.out _ ?_) N2.out; (repeat (first | exact HZ.out | apply below_drew | apply pw_below_drewN)); done)), (by first | (refine C7.out _ ?_; (repeat (first | exact HZ.out | apply below_drew | apply pw_below_drewN)); done) | (refine sc_other (C7.out _ ?_) N7.out; (repeat (first | exact HZ.out | apply below_drew | apply pw_below_drewN)); done)), (by first | (refine C15.out _ ?_; (repeat (first | exact HZ.out | apply below_drew | apply pw_below_drewN)); done) | (refine sc_other (C15.out _ ?_) N15.out; (repeat (first | exact HZ.out | apply below_drew | apply pw_below_drewN)); done)), (by first | (refine C16.out _ ?_; (repeat (first | exact HZ.out | apply below_drew | apply pw_below_drewN)); done) | (refine sc_other (C16.out _ ?_) N16.out; (repeat (first | exact HZ.out | apply below_drew | apply pw_below_drewN)); done))⟩ (fun hHeld => ?_)
          clear hK K
          refine done_ (done_of HT_.out (by kernel_rfl)) ?_
          clear w2 w7 w15 w16
          go_wp2
          rw [HV.out]
          go_roundw
          case rel => exact ⟨k + 1, by omega, by omega, by simp, ⟨sc_drew HP.out⟩⟩
          case measure => simp [intOf]; omega
        · obtain rfl : k = 64 := by omega
          have g1 := KS.out.2.1
          have g0 := KS.out.1
          have s1 := row_size (schL xs 64) (by rw [schL_len]; exact Nat.le_refl _)
          have s0 := row_size [] (by simp)
          have i1 : (Try.prog.info? 142).map (·.size) = some 64 := by kernel_rfl
          have o1 := row_one (schL xs 64)
          have hbl := KS.out.2.2
          obtain ⟨R, hR⟩ : ∃ R, row64 (schL xs 64) = R := ⟨_, rfl⟩
          rw [hR] at g1 s1 o1
          have G0 := Aside0.mk g0
          have G1 := Aside0.mk g1
          have S0 := Aside0.mk s0
          have S1 := Aside0.mk s1
          have I1 := Aside0.mk i1
          have O1 := Aside0.mk o1
          have HBL := Aside0.mk hbl
          have HR := Aside0.mk hR
          clear KS g0 g1 s0 s1 i1 o1 hbl hR
          go_wp2_with (first
            | ((with_reducible refine gate_dst (N := 76) rfl ?_); refine wpList_load_row rfl 142 (.tmp 3) rfl (w.heap.size + 1) rfl 142 R (0, 0) _ G1.out Try.underlying142 rfl (by rw [S1.out]; exact I1.out) ?_; simp only [Act.put, List.setIfInBounds_toArray, List.set_cons_zero, List.set_cons_succ])
            | ((with_reducible refine gate_store (t := 142) (p := 2) (v := .tmp 76) rfl ?_); refine x_arrStore rfl 142 (.tmp 2) (.tmp 76) rfl w.heap.size _ R rfl rfl G0.out (by rw [S1.out]; exact I1.out) (by rw [S0.out, S1.out]) O1.out ?_; intro W1 hh1 hg1; have GH := Aside0.mk hh1; have GG := Aside0.mk hg1; clear hh1 hg1))
          refine bodyPost_ret (v := .agg R) (results_cell_row rfl _ _ w.heap.size _ R (0, 0) _ rfl GH.out Try.underlying142 rfl (by rw [S1.out]; exact I1.out)) rfl ⟨by rw [HR.out], ?_⟩
          exact HBL.out.grown GG.out HBL.out.size (fun k hk => by injection hk with hk; omega)
end Go.Proofs.Ytaoiamifofkklaa.Obj
