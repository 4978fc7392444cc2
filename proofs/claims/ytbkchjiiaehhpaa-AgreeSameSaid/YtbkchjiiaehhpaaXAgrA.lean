/- Contracts of Go functions that the claims of this seat share. -/
import Derived.Test.YtbkchjiiaehhpaaProg
import Derived.Below
import Derived.Deep.Draws
import Derived.Deep.AppendLies
import Derived.Maps.AppendAt
import Derived.OwnWalk
import Derived.Laws.BytesArg
import Derived.Laws.MakeOwn
import Derived.Laws.OwnMore
import Derived.Deep.OwnRows
import Derived.Tactics
import Derived.Lib.ConvBytes
import Derived.Laws.Slices
import Derived.WalkKit
import Derived.KernelRfl
import Derived.RowKit3
import Derived.Deep.LoopGhost
import Derived.Deep.QuietTactic
import Derived.BigQuiet
import Derived.WideLaws
import Derived.Deep.DeepCutAuto
import Derived.Deep.CutBlock
import Derived.Deep.RegionHeld3
import Derived.Laws.Rows
import Derived.Lib.AppendStr
import Derived.ArgAppend
import Derived.Laws.IdiomCopy
import Derived.OrdersHeld
import Derived.Laws.BitsLemmas
import Derived.RowKit
import Derived.Test.YtbkchjiiaehhpaaWWords
import Derived.Test.YtbkchjiiaehhpaaWLast
import Derived.Test.YtbkchjiiaehhpaaWTab
import Derived.Test.YtbkchjiiaehhpaaWFour
import Derived.Test.YtbkchjiiaehhpaaWQPut
import Derived.Test.YtbkchjiiaehhpaaWApart
import Derived.Test.YtbkchjiiaehhpaaWArr
import Derived.Test.YtbkchjiiaehhpaaWZeros
import Derived.Test.YtbkchjiiaehhpaaWFoot
import Derived.Test.YtbkchjiiaehhpaaWKept
import Derived.Test.YtbkchjiiaehhpaaWShare
import Derived.Test.YtbkchjiiaehhpaaWN
import Derived.Test.YtbkchjiiaehhpaaWFootNe
import Derived.Test.YtbkchjiiaehhpaaWAt
import Derived.Test.YtbkchjiiaehhpaaWEqStruct
import Derived.Test.YtbkchjiiaehhpaaWRepsOne
import Derived.Test.YtbkchjiiaehhpaaWInv
import Derived.Test.YtbkchjiiaehhpaaWInvWords
import Derived.Test.YtbkchjiiaehhpaaWGuard
import Derived.Test.YtbkchjiiaehhpaaWNEv
import Derived.Test.YtbkchjiiaehhpaaWMore
import Derived.Test.YtbkchjiiaehhpaaX0Mem
import Derived.Test.YtbkchjiiaehhpaaX1Pure
import Derived.Test.YtbkchjiiaehhpaaXObjA
import Derived.Maps.OwnSet
import Derived.WalkSpells
namespace Go.Proofs.Ytbkchjiiaehhpaa.Obj
open Go.RowKit Go.Proofs.YtbkchjiiaehhpaaW.PrintWords Go.Proofs.YtbkchjiiaehhpaaW.PrintLast Go.Proofs.YtbkchjiiaehhpaaW.PrintMore
set_option linter.unusedVariables false
set_option linter.unusedSimpArgs false
open Go.Maps Go.WideMaps
/-! The votes of rounds. -/
theorem fl_low {w w' : World} {a : Addr} {v : Value} (h : w.cell? a = some v) (hb : Below w.heap.size w w') : w'.cell? a = some v := pw_cell_below hb h
theorem b_cut {B : Nat} {w w' : World} (h : Below w.heap.size w w') (hB : B ≤ w.heap.size) : Below B w w' := ⟨h.os, h.tape, h.output, h.size, fun i hi => h.block i (by omega)⟩
def vA (l : List Int) : Value := .agg (nums .i64 l).toArray
def encV (l : List Int) : DataW Unit := .agg (l.map fun n => .lit (.int .i64 n))
def numsOf : List Value → Option (List Int)
  | [] => some []
  | u :: l => match u with
    | .int .i64 n => (numsOf l).map fun ns => n :: ns
    | _ => none
theorem numsOf_nums : ∀ l : List Int, numsOf (nums .i64 l) = some l
  | [] => rfl
  | n :: l => by
    show (numsOf (nums .i64 l)).map (fun ns => n :: ns) = _
    rw [numsOf_nums l]
    rfl
theorem nums_numsOf : ∀ (L : List Value) (l : List Int), numsOf L = some l → L = nums .i64 l
  | [], l, h => by
    injection h with h
    subst h
    rfl
  | u :: L, l, h => by
    unfold numsOf at h
    split at h
    · obtain ⟨ns, h1, rfl⟩ := Option.map_eq_some_iff.1 h
      rw [nums_numsOf L ns h1]
      rfl
    · cases h
def R8 (v : Value) : Option (DataW Unit × List MemPlace) := match v with
  | .agg cs => (numsOf cs.toList).map fun ns => (encV ns, [])
  | _ => none
theorem R8_vA (l : List Int) : R8 (vA l) = some (encV l, []) := by
  show (numsOf (nums .i64 l)).map (fun ns => (encV ns, [])) = _
  rw [numsOf_nums]
  rfl
theorem encV_inj {l m : List Int} (h : encV l = encV m) : l = m := by
  unfold encV at h
  injection h with h
  revert m
  induction l with
  | nil => intro m h; cases m with | nil => rfl | cons b m => simp at h
  | cons a l ih =>
    intro m h
    cases m with
    | nil => simp at h
    | cons b m =>
      rw [List.map_cons, List.map_cons] at h
      injection h with h1 h2
      injection h1 with h1
      injection h1 with _ h1
      rw [h1, ih h2]
theorem vA_of_R8 {v : Value} {l : List Int} {ps : List MemPlace} (h : R8 v = some (encV l, ps)) : v = vA l := by
  unfold R8 at h
  split at h
  · rename_i cs
    obtain ⟨ns, h1, h2⟩ := Option.map_eq_some_iff.1 h
    injection h2 with h2 _
    obtain rfl := encV_inj h2
    have := nums_numsOf _ _ h1
    unfold vA
    rw [← this]
  · cases h
def NB8 : List Int := List.replicate 8 (-1)
def keyR (r : Int) : Lit := .int .i64 r
def AM (W : World) (bm n : Nat) (D : DataW Unit) : Prop := W.ownsMap Try.prog 3 R8 bm n D
/-- the votes of a round -/
def Tells (D : DataW Unit) (r : Int) (vt : List Int) : Prop := vt.length = 8 ∧ ((Maps.has D (keyR r) = true ∧ ∀ z, D.atKey (keyR r) z = encV vt) ∨ (Maps.has D (keyR r) = false ∧ vt = NB8))
def AG (W : World) (base A : Nat) (c : List Int) (i : Int) (bm n : Nat) (D : DataW Unit) (last v : Int) : Prop :=
  base ≤ A ∧ base ≤ bm ∧ c.length = 10 ∧ W.heap[A]? = some (.cells (nums .i64 c ++ [Value.int .i64 i, Value.map (some bm), Value.int .i64 0, Value.int .i64 last, Value.int .i64 v]).toArray 63 (0, 0)) ∧ AM W bm n D
theorem AM.ne {w : World} {bm n k : Nat} {D : DataW Unit} {c : Array Value} {t : TypeId} {fr : Nat × Nat} (h : AM w bm n D) (hk : w.heap[k]? = some (.cells c t fr)) : bm ≠ k := by
  rintro rfl
  obtain ⟨es, cl, hb, _⟩ := h
  rw [hb] at hk
  cases hk
theorem AG.kept {w w' : World} {base A bm n : Nat} {c : List Int} {i last v : Int} {D : DataW Unit} {S : Nat → Prop} (h : AG w base A c i bm n D last v) (hk : Kept w w' S) (hA : ¬ S A) (hb : ¬ S bm) : AG w' base A c i bm n D last v := by
  obtain ⟨h1, h2, h3, h4, es, cl, h5, h6⟩ := h
  exact ⟨h1, h2, h3, blk_kept h4 hk hA, es, cl, blk_kept h5 hk hb, h6⟩
theorem AG.below {w w' : World} {base A bm n : Nat} {c : List Int} {i last v : Int} {D : DataW Unit} (h : AG w base A c i bm n D last v) (hb : Below w.heap.size w w') : AG w' base A c i bm n D last v :=
  h.kept (Kept.of_below hb (fun _ => False)) id id
set_option maxHeartbeats 4000000 in
set_option maxRecDepth 100000 in
theorem ag_none (A bm : Nat) (w : World) (h : w.cell? ⟨A, 11, none⟩ = some (.map (some bm))) : Calls Try.prog 87 #[.pointer (some ⟨A, 0, none⟩)] w fun e w' => e = .returned (.bool false) ∧ w' = w := by
  have hu := Try.underlying63
  have hm := run_eql_map_nil (P := Try.prog) w _ _ _ (some bm) Try.underlying61
  go_enter Try.func87, Try.ntmps87
  go_wp2
  go_ret
  exact ⟨rfl, rfl⟩
theorem ag_cells {w : World} {base A bm n : Nat} {c : List Int} {i last v : Int} {D : DataW Unit} (h : AG w base A c i bm n D last v) : ∃ c0 c1 c2 c3 c4 c5 c6 c7 c8 c9, c = [c0, c1, c2, c3, c4, c5, c6, c7, c8, c9] ∧
    w.cell? ⟨A, 0, none⟩ = some (.int .i64 c0) ∧ w.cell? ⟨A, 1, none⟩ = some (.int .i64 c1) ∧ w.cell? ⟨A, 3, none⟩ = some (.int .i64 c3) ∧ w.cell? ⟨A, 10, none⟩ = some (.int .i64 i) ∧ w.cell? ⟨A, 11, none⟩ = some (.map (some bm)) ∧ w.cell? ⟨A, 12, none⟩ = some (.int .i64 0) ∧ w.cell? ⟨A, 13, none⟩ = some (.int .i64 last) ∧ w.cell? ⟨A, 14, none⟩ = some (.int .i64 v) := by
  obtain ⟨_, _, h3, h4, _⟩ := h
  match c, h3 with
  | [c0, c1, c2, c3, c4, c5, c6, c7, c8, c9], _ =>
    exact ⟨c0, c1, c2, c3, c4, c5, c6, c7, c8, c9, rfl, (blk_cell h4 0).trans rfl, (blk_cell h4 1).trans rfl, (blk_cell h4 3).trans rfl, (blk_cell h4 10).trans rfl, (blk_cell h4 11).trans rfl, (blk_cell h4 12).trans rfl, (blk_cell h4 13).trans rfl, (blk_cell h4 14).trans rfl⟩
set_option maxHeartbeats 4000000 in
set_option maxRecDepth 100000 in
theorem ag_last (A base bm n : Nat) (c : List Int) (i last v : Int) (D : DataW Unit) (w : World) (h : AG w base A c i bm n D last v) :
    Calls Try.prog 38 #[.pointer (some ⟨A, 0, none⟩)] w fun e w' => e = .returned (.tuple #[.int .i64 last, .int .i64 v]) ∧ Below w.heap.size w w' := by
  have hu := Try.underlying63
  obtain ⟨c0, c1, c2, c3, c4, c5, c6, c7, c8, c9, _, g0, g1, g3, g10, g11, g12, g13, g14⟩ := ag_cells h
  clear h
  go_enter Try.func38, Try.ntmps38
  go_wp2_with (go_at_call 87; (with_reducible refine (ag_none A bm _ g11).mono ?_); rintro e w ⟨rfl, rfl⟩)
  go_region
  go_wp2
  go_ret2
  exact ⟨rfl, by repeat (first | exact Below.refl _ _ | apply below_drew | apply pw_below_drewN)⟩
/-! Whole arrays. -/
section
variable {P : Program} {ops : Array Oper} {rest : List Oper} {o : Oper} {a : Act} {Q : Exit → Act → World → Prop}
/-- a whole array into a variable -/
theorem x_arrStore {W : World} (hgd : o.guard = none) (t : TypeId) (p v : Operand) (ho : o.op = .store t p v) (B : Nat) (old new : Array Value) (hp : a.eval p = .pointer (some ⟨B, 0, none⟩)) (hv : a.eval v = .agg new)
    (hh : W.heap[B]? = some (.cells old t (0, 0))) (hi : (P.info? t).map (·.size) = some new.size) (hs : old.size = new.size) (h1 : new.all (·.oneCell') = true)
    (h : ∀ W1, W1.heap[B]? = some (.cells new t (0, 0)) → W.grownBy W1 (some B) → wpList P ops Q rest (a.put o.dst undef) W1) : wpList P ops Q (o :: rest) a W := by
  refine wpList_plain hgd fun _ hK => ?_
  unfold Oper.wp execOp
  simp only [ho, hp, hv, Instr.storeAt, Instr.sureAddr, Sem.run_bind, Sem.run_pure, Result.andThen_ok, run_storeVar_row W B t t old new hh hi hs h1]
  refine hK _ _ (h _ ?_ ?_)
  · exact setRow_heap W B _ _ t _ hh
  · exact ⟨rfl, rfl, rfl, by simp [World.setRow], fun i hi hne => setRow_other W B i _ (by intro e'; subst e'; exact hne rfl)⟩
end
section
variable {P : Program} {ops : Array Oper} {o : Oper} {a : Act} {Q : Exit → Act → World → Prop} {Kc : Act → World → Prop}
/-- a new variable, as one step of a region that draws -/
theorem step_alloc {W : World} (hw : Region.wanted o (yielded ops a.tmps) = true) (N : Tmp) (hN : o.dst = some N) (cs : Array Value) (t : TypeId) (hrun : (execOp a.eval o).run P W = .ok (.value (.pointer (some ⟨W.heap.size, 0, none⟩))) (W.alloc (.cells cs t)))
    (h : ∀ B W1, W1.heap[B]? = some (.cells cs t (0, 0)) → W.heap.size ≤ B → Below W.heap.size W W1 → Kc (a.put (some N) (.pointer (some ⟨B, 0, none⟩))) W1) : if Region.wanted o (yielded ops a.tmps) = true then Oper.wp P o a W Kc Q else Kc (a.put (some N) undef) W := by
  rw [if_pos hw]
  unfold Oper.wp
  rw [hrun]
  show Kc (a.put o.dst _) _
  rw [hN]
  exact h _ _ (heap_alloc_new _ _) (Nat.le_refl _) ((Below.refl _ W).alloc (Nat.le_refl _) _)
/-- a whole array into a variable, as one step of a region that draws -/
theorem step_arrStore {W : World} (hw : Region.wanted o (yielded ops a.tmps) = true) (hN : o.dst = none) (t : TypeId) (p v : Operand) (ho : o.op = .store t p v) (B : Nat) (old new : Array Value) (hp : a.eval p = .pointer (some ⟨B, 0, none⟩)) (hv : a.eval v = .agg new)
    (hh : W.heap[B]? = some (.cells old t (0, 0))) (hi : (P.info? t).map (·.size) = some new.size) (hs : old.size = new.size) (h1 : new.all (·.oneCell') = true)
    (h : ∀ W1, W1.heap[B]? = some (.cells new t (0, 0)) → W.grownBy W1 (some B) → Kc a W1) : if Region.wanted o (yielded ops a.tmps) = true then Oper.wp P o a W Kc Q else Kc (a.put none undef) W := by
  refine skip_ hw hN (w1 := W.setRow B new) ?_ (h _ (setRow_heap W B _ _ t _ hh) ⟨rfl, rfl, rfl, by simp [World.setRow], fun i hi hne => setRow_other W B i _ (by intro e'; subst e'; exact hne rfl)⟩)
  unfold execOp
  simp only [ho, hp, hv, Instr.storeAt, Instr.sureAddr, Sem.run_bind, Sem.run_pure, Result.andThen_ok, run_storeVar_row W B t t old new hh hi hs h1]
end
section
variable {P : Program} {ops : Array Oper} {o : Oper} {a : Act} {Q : Exit → Act → World → Prop} {Kc : Act → World → Prop}
/-- a load by its own equation, as one step of a region that draws -/
theorem step_load {W : World} (hw : Region.wanted o (yielded ops a.tmps) = true) (N : Tmp) (hN : o.dst = some N) (t : TypeId) (p : Operand) (ho : o.op = .load t p) (ad : Addr) (v : Value) (hp : a.eval p = .pointer (some ad)) (hr : (loadVar t ad).run P W = .ok v W)
    (h : Kc (a.put (some N) v) W) : if Region.wanted o (yielded ops a.tmps) = true then Oper.wp P o a W Kc Q else Kc (a.put (some N) undef) W := by
  rw [if_pos hw]
  unfold Oper.wp execOp
  simp only [ho, hp, Instr.loadAt, Instr.sureAddr, Sem.run_bind, Sem.run_pure, Result.andThen_ok, hr]
  show Kc (a.put o.dst _) _
  rw [hN]
  exact h
end
theorem ag_size : (Try.prog.info? 137).map (·.size) = some 8 := by kernel_rfl
theorem vA_size {l : List Int} (h : l.length = 8) : (nums .i64 l).toArray.size = 8 := by simp [nums, h]
theorem vA_one (l : List Int) : (nums .i64 l).toArray.all (·.oneCell') = true := by simp [nums, Value.oneCell']
def VB (W : World) (B : Nat) (l : List Int) : Prop := W.heap[B]? = some (.cells (nums .i64 l).toArray 137 (0, 0))
theorem VB.below {w w' : World} {B : Nat} {l : List Int} (h : VB w B l) (hb : Below w.heap.size w w') : VB w' B l := blk_below h hb
theorem VB.put {w : World} {B : Nat} {l : List Int} (h : VB w B l) (j : Nat) (x : Int) : VB (w.setCell ⟨B, j, none⟩ (.int .i64 x)) B (l.set j x) := by
  have q := blk_set h j (.int .i64 x)
  unfold VB
  rw [q]
  simp [nums, List.map_set]
theorem VB.far {w : World} {B : Nat} {l : List Int} (h : VB w B l) {p : Addr} (hp : B ≠ p.block) (u : Value) : VB (w.setCell p u) B l := blk_far h hp u
theorem VB.at {w : World} {B : Nat} {l : List Int} (h : VB w B l) (j : Nat) (hj : j < l.length) : w.cell? ⟨B, j, none⟩ = some (.int .i64 (l.getD j 0)) := by
  rw [blk_cell h j]
  simp [nums, List.getD_eq_getElem?_getD, List.getElem?_eq_getElem hj]
theorem VB.free {w : World} {B : Nat} {l : List Int} (h : VB w B l) (j : Nat) : w.frozen? ⟨B, j, none⟩ = false := blk_frozen h j
def NBk (k : Nat) : List Int := List.replicate k (-1) ++ List.replicate (8 - k) 0
theorem NBk_len (k : Nat) (h : k ≤ 8) : (NBk k).length = 8 := by simp [NBk]; omega
theorem NBk_set (k : Nat) (h : k < 8) : (NBk k).set k (-1) = NBk (k + 1) := by
  match k, h with
  | 0, _ => rfl
  | 1, _ => rfl
  | 2, _ => rfl
  | 3, _ => rfl
  | 4, _ => rfl
  | 5, _ => rfl
  | 6, _ => rfl
  | 7, _ => rfl
set_option maxHeartbeats 4000000 in
set_option maxRecDepth 100000 in
theorem ag_votesNone (w : World) : Calls Try.prog 111 #[] w fun e w' => e = .returned (vA NB8) ∧ Below w.heap.size w w' := by
  go_enter Try.func111, Try.ntmps111
  go_wp2
  have e1 : (w.alloc (.cells #[.int .i64 0, .int .i64 0, .int .i64 0, .int .i64 0, .int .i64 0, .int .i64 0, .int .i64 0, .int .i64 0] 137)).heap.size = w.heap.size + 1 := World.size_alloc _ _
  obtain ⟨Z, hZ⟩ : ∃ Z, (Obj.cells #[.int .i64 0, .int .i64 0, .int .i64 0, .int .i64 0, .int .i64 0, .int .i64 0, .int .i64 0, .int .i64 0] 137 (0, 0)) = Z := ⟨_, rfl⟩
  have V0 : Aside0 (VB ((w.alloc Z).alloc Z) w.heap.size (NBk 0)) := ⟨by rw [← hZ]; exact blk_alloc (heap_alloc_new _ _) _⟩
  have V1 : Aside0 (VB ((w.alloc Z).alloc Z) (w.heap.size + 1) (NBk 0)) := ⟨by rw [hZ] at e1; rw [← e1, ← hZ]; exact heap_alloc_new _ _⟩
  have HB : Aside0 (Below w.heap.size w ((w.alloc Z).alloc Z)) := ⟨((Below.refl _ w).alloc (Nat.le_refl _) Z).alloc ((Below.refl _ w).alloc (Nat.le_refl _) Z).size Z⟩
  rw [hZ]
  obtain ⟨B0, hB0⟩ : ∃ B, w.heap.size = B := ⟨_, rfl⟩
  rw [hB0] at V0 V1 HB ⊢
  clear e1 hZ
  go_loopw [3] (fun v3 wr => ∃ k : Nat, k ≤ 8 ∧ v3 = .int .i64 k ∧ Aside0 (VB wr B0 (NBk 0)) ∧ Aside0 (VB wr (B0 + 1) (NBk k)) ∧ Aside0 (Below B0 w wr)) (fun v3 _ => 8 - (intOf v3).toNat)
  case atStart => exact ⟨0, by decide, rfl, V0, V1, HB⟩
  case round =>
    clear V0 V1 HB
    obtain ⟨k, hk, rfl, V0, V1, HB⟩ := hrel
    by_cases hlt : k < 8
    · have q1 := V1.out.at k (by rw [NBk_len k hk]; exact hlt)
      have q2 := V1.out.free k
      have j1 : (k : Int) < 8 := by omega
      go_wp2
      refine ⟨⟨k + 1, hlt, by simp, ⟨V0.out.far (p := ⟨B0 + 1, k, none⟩) (by simp) _⟩, ⟨by rw [← NBk_set k hlt]; exact V1.out.put k (-1)⟩, ⟨HB.out.setCell (p := ⟨B0 + 1, k, none⟩) (by simp) _⟩⟩, ?_⟩
      simp [intOf]
      omega
    · obtain rfl : k = 8 := by omega
      have h8 : NBk 8 = NB8 := rfl
      rw [h8] at V1
      go_wp2_with (first
        | ((with_reducible refine gate_dst (N := 9) rfl ?_); refine wpList_load_row rfl 137 (.tmp 1) rfl (B0 + 1) rfl 137 (nums .i64 NB8).toArray (0, 0) _ V1.out Try.underlying137 rfl (by rw [vA_size rfl]; exact ag_size) ?_; simp only [Act.put, List.setIfInBounds_toArray, List.set_cons_zero, List.set_cons_succ])
        | ((with_reducible refine gate_store (t := 137) (p := 0) (v := .tmp 9) rfl ?_); refine x_arrStore rfl 137 (.tmp 0) (.tmp 9) rfl B0 (nums .i64 (NBk 0)).toArray (nums .i64 NB8).toArray rfl rfl V0.out (by rw [vA_size rfl]; exact ag_size) (by rw [vA_size (NBk_len 0 (by decide)), vA_size (show NB8.length = 8 from rfl)]) (vA_one _) ?_; intro W1 hh hg; have GH := Aside0.mk hh; have HB1 := Aside0.mk (HB.out.grown hg (by have := HB.out.size; omega) (fun k hk => by injection hk with hk; omega)); clear hh hg))
      refine bodyPost_ret (v := vA NB8) (results_cell_row rfl _ _ B0 _ (nums .i64 NB8).toArray (0, 0) _ rfl GH.out Try.underlying137 rfl (by rw [vA_size rfl]; exact ag_size)) rfl ⟨rfl, by rw [hB0]; exact HB1.out⟩
theorem ag_zero (w : World) : (zeroValue 137).run Try.prog w = .ok (vA (List.replicate 8 0)) w := by kernel_rfl
/-- what is told of a round -/
theorem ag_look {W : World} {bm n : Nat} {D : DataW Unit} {r : Int} {vt : List Int} (h : AM W bm n D) (ht : Tells D r vt) (hr : -9223372036854775808 ≤ r ∧ r ≤ 9223372036854775807) :
    ∃ v, (Instr.lookup 61 (.map (some bm)) (.int .i64 r) true).run Try.prog W = .ok (.tuple #[v, .bool (Maps.has D (keyR r))]) W ∧ ((Maps.has D (keyR r) = true ∧ v = vA vt) ∨ (Maps.has D (keyR r) = false ∧ vt = NB8 ∧ v = vA (List.replicate 8 0))) := by
  have hwf : (Lit.int .i64 r).wf = true := WalkArith.wf_i64 hr
  obtain ⟨v, ps, hrun, hv⟩ := World.ownsMap.look_ok h (int_keyed Try.underlying3) Try.underlying61 (ag_zero W) (R8_vA _) (keyOf_int_mk Try.underlying3 hwf)
  refine ⟨v, hrun, ?_⟩
  rcases ht.2 with ⟨h1, h2⟩ | ⟨h1, h2⟩
  · refine .inl ⟨h1, ?_⟩
    have q := h2 (encV (List.replicate 8 0))
    unfold keyR at q
    rw [q] at hv
    exact vA_of_R8 hv
  · refine .inr ⟨h1, h2, ?_⟩
    have q := Maps.atKey_of_not_has (k := keyR r) h1 (encV (List.replicate 8 0))
    unfold keyR at q
    rw [q] at hv
    exact vA_of_R8 hv
set_option maxHeartbeats 4000000 in
set_option maxRecDepth 100000 in
theorem ag_of (A base bm n : Nat) (c : List Int) (i last v : Int) (D : DataW Unit) (r : Int) (vt : List Int) (w : World) (h : AG w base A c i bm n D last v) (ht : Tells D r vt) (hr : -9223372036854775808 ≤ r ∧ r ≤ 9223372036854775807) :
    Calls Try.prog 89 #[.pointer (some ⟨A, 0, none⟩), .int .i64 r] w fun e w' => e = .returned (vA vt) ∧ Below w.heap.size w w' := by
  have hu := Try.underlying63
  obtain ⟨c0, c1, c2, c3, c4, c5, c6, c7, c8, c9, _, g0, g1, g3, g10, g11, g12, g13, g14⟩ := ag_cells h
  have C11 : Aside0 (∀ W, Below w.heap.size w W → W.cell? ⟨A, 11, none⟩ = some (.map (some bm))) := ⟨fun W hb => fl_low g11 hb⟩
  have CM : Aside0 (∀ W, Below w.heap.size w W → AM W bm n D) := ⟨fun W hb => World.ownsMap.kept h.2.2.2.2 (grown_of_below hb none) (by simp)⟩
  have HT := Aside0.mk ht
  have HR := Aside0.mk hr
  have HL : Aside0 (vt.length = 8) := ⟨ht.1⟩
  obtain ⟨Z, hZ⟩ : ∃ Z, (Obj.cells #[.int .i64 0, .int .i64 0, .int .i64 0, .int .i64 0, .int .i64 0, .int .i64 0, .int .i64 0, .int .i64 0] 137 (0, 0)) = Z := ⟨_, rfl⟩
  have e1 : (w.alloc Z).heap.size = w.heap.size + 1 := World.size_alloc _ _
  have V0 : Aside0 (VB ((w.alloc Z).alloc Z) w.heap.size (NBk 0)) := ⟨by rw [← hZ]; exact blk_alloc (heap_alloc_new _ _) _⟩
  have V1 : Aside0 (VB ((w.alloc Z).alloc Z) (w.heap.size + 1) (NBk 0)) := ⟨by rw [← e1, ← hZ]; exact heap_alloc_new _ _⟩
  have HB : Aside0 (Below w.heap.size w ((w.alloc Z).alloc Z)) := ⟨((Below.refl _ w).alloc (Nat.le_refl _) Z).alloc ((Below.refl _ w).alloc (Nat.le_refl _) Z).size Z⟩
  obtain ⟨vL, hrun, hv⟩ := ag_look (CM.out (w.alloc Z) (below_alloc (Below.refl _ _) _)) ht hr
  have g11a := C11.out (w.alloc Z) (below_alloc (Below.refl _ _) _)
  rw [← hZ] at V0 V1 HB hrun g11a
  clear h g0 g1 g3 g10 g11 g12 g13 g14 ht hr e1 hZ Z C11 CM
  rcases hv with ⟨hh, rfl⟩ | ⟨hh, rfl, rfl⟩
  · rw [hh] at hrun
    clear hh
    unfold vA at hrun
    go_enter Try.func89, Try.ntmps89
    go_wp2_with (first
      | ((with_reducible refine gate_store (t := 137) (p := 5) (v := .tmp 14) rfl ?_); refine x_arrStore rfl 137 (.tmp 5) (.tmp 14) rfl (w.heap.size + 1) (nums .i64 (NBk 0)).toArray (nums .i64 vt).toArray rfl rfl V1.out (by rw [vA_size HL.out]; exact ag_size) (by rw [vA_size (NBk_len 0 (by decide)), vA_size HL.out]) (vA_one _) ?_; intro W3 hh hg; have X1 : Aside0 (VB W3 (w.heap.size + 1) vt) := ⟨hh⟩; have X0 : Aside0 (VB W3 w.heap.size (NBk 0)) := ⟨blk_grown V0.out hg (by simp)⟩; have XB := Aside0.mk (HB.out.grown hg (by have := HB.out.size; omega) (fun k hk => by injection hk with hk; omega)); clear hh hg)
      | ((with_reducible refine gate_dst (N := 17) rfl ?_); refine wpList_load_row rfl 137 (.tmp 5) rfl (w.heap.size + 1) rfl 137 (nums .i64 vt).toArray (0, 0) _ X1.out Try.underlying137 rfl (by rw [vA_size HL.out]; exact ag_size) ?_; simp only [Act.put, List.setIfInBounds_toArray, List.set_cons_zero, List.set_cons_succ])
      | ((with_reducible refine gate_store (t := 137) (p := 4) (v := .tmp 17) rfl ?_); refine x_arrStore rfl 137 (.tmp 4) (.tmp 17) rfl w.heap.size (nums .i64 (NBk 0)).toArray (nums .i64 vt).toArray rfl rfl X0.out (by rw [vA_size HL.out]; exact ag_size) (by rw [vA_size (NBk_len 0 (by decide)), vA_size HL.out]) (vA_one _) ?_; intro W4 hh hg; have GH := Aside0.mk hh; have YB := Aside0.mk (XB.out.grown hg (by have := XB.out.size; omega) (fun k hk => by injection hk with hk; omega)); clear hh hg))
    refine bodyPost_ret (v := vA vt) (results_cell_row rfl _ _ w.heap.size _ (nums .i64 vt).toArray (0, 0) _ rfl GH.out Try.underlying137 rfl (by rw [vA_size HL.out]; exact ag_size)) rfl ⟨rfl, YB.out⟩
  · rw [hh] at hrun
    clear hh
    unfold vA at hrun
    go_enter Try.func89, Try.ntmps89
    go_wp2_with (first
      | ((with_reducible refine gate_store (t := 137) (p := 5) (v := .tmp 14) rfl ?_); refine x_arrStore rfl 137 (.tmp 5) (.tmp 14) rfl (w.heap.size + 1) (nums .i64 (NBk 0)).toArray (nums .i64 (List.replicate 8 0)).toArray rfl rfl V1.out (by rw [vA_size (show (List.replicate 8 (0 : Int)).length = 8 from rfl)]; exact ag_size) (by rw [vA_size (NBk_len 0 (by decide)), vA_size (show (List.replicate 8 (0 : Int)).length = 8 from rfl)]) (vA_one _) ?_; intro W3 hh hg; have X1 : Aside0 (VB W3 (w.heap.size + 1) (List.replicate 8 0)) := ⟨hh⟩; have X0 : Aside0 (VB W3 w.heap.size (NBk 0)) := ⟨blk_grown V0.out hg (by simp)⟩; have XB := Aside0.mk (HB.out.grown hg (by have := HB.out.size; omega) (fun k hk => by injection hk with hk; omega)); clear hh hg)
      | (go_at_call 111; (with_reducible refine (ag_votesNone _).mono ?_); rintro e W4 ⟨rfl, hb⟩; have Y0 := Aside0.mk (X0.out.below hb); have ZB := Aside0.mk (below_step XB.out hb); clear hb; unfold vA)
      | ((with_reducible refine gate_store (t := 137) (p := 4) (v := .tmp 18) rfl ?_); refine x_arrStore rfl 137 (.tmp 4) (.tmp 18) rfl w.heap.size (nums .i64 (NBk 0)).toArray (nums .i64 NB8).toArray rfl rfl Y0.out (by rw [vA_size (show NB8.length = 8 from rfl)]; exact ag_size) (by rw [vA_size (NBk_len 0 (by decide)), vA_size (show NB8.length = 8 from rfl)]) (vA_one _) ?_; intro W5 hh hg; have GH := Aside0.mk hh; have YB := Aside0.mk (ZB.out.grown hg (by have := ZB.out.size; omega) (fun k hk => by injection hk with hk; omega)); clear hh hg))
    refine bodyPost_ret (v := vA NB8) (results_cell_row rfl _ _ w.heap.size _ (nums .i64 NB8).toArray (0, 0) _ rfl GH.out Try.underlying137 rfl (by rw [vA_size (show NB8.length = 8 from rfl)]; exact ag_size)) rfl ⟨rfl, YB.out⟩
theorem ag_ix0 (w : World) (x0 x1 x2 x3 x4 x5 x6 x7 : Int) : (Instr.index 137 (.agg #[.int .i64 x0, .int .i64 x1, .int .i64 x2, .int .i64 x3, .int .i64 x4, .int .i64 x5, .int .i64 x6, .int .i64 x7]) (.int .i64 0)).run Try.prog w = .ok (.int .i64 x0) w := by kernel_rfl
theorem ag_ix1 (w : World) (x0 x1 x2 x3 x4 x5 x6 x7 : Int) : (Instr.index 137 (.agg #[.int .i64 x0, .int .i64 x1, .int .i64 x2, .int .i64 x3, .int .i64 x4, .int .i64 x5, .int .i64 x6, .int .i64 x7]) (.int .i64 1)).run Try.prog w = .ok (.int .i64 x1) w := by kernel_rfl
theorem ag_ix2 (w : World) (x0 x1 x2 x3 x4 x5 x6 x7 : Int) : (Instr.index 137 (.agg #[.int .i64 x0, .int .i64 x1, .int .i64 x2, .int .i64 x3, .int .i64 x4, .int .i64 x5, .int .i64 x6, .int .i64 x7]) (.int .i64 2)).run Try.prog w = .ok (.int .i64 x2) w := by kernel_rfl
theorem ag_ix3 (w : World) (x0 x1 x2 x3 x4 x5 x6 x7 : Int) : (Instr.index 137 (.agg #[.int .i64 x0, .int .i64 x1, .int .i64 x2, .int .i64 x3, .int .i64 x4, .int .i64 x5, .int .i64 x6, .int .i64 x7]) (.int .i64 3)).run Try.prog w = .ok (.int .i64 x3) w := by kernel_rfl
theorem ag_ix4 (w : World) (x0 x1 x2 x3 x4 x5 x6 x7 : Int) : (Instr.index 137 (.agg #[.int .i64 x0, .int .i64 x1, .int .i64 x2, .int .i64 x3, .int .i64 x4, .int .i64 x5, .int .i64 x6, .int .i64 x7]) (.int .i64 4)).run Try.prog w = .ok (.int .i64 x4) w := by kernel_rfl
theorem ag_ix5 (w : World) (x0 x1 x2 x3 x4 x5 x6 x7 : Int) : (Instr.index 137 (.agg #[.int .i64 x0, .int .i64 x1, .int .i64 x2, .int .i64 x3, .int .i64 x4, .int .i64 x5, .int .i64 x6, .int .i64 x7]) (.int .i64 5)).run Try.prog w = .ok (.int .i64 x5) w := by kernel_rfl
theorem ag_ix6 (w : World) (x0 x1 x2 x3 x4 x5 x6 x7 : Int) : (Instr.index 137 (.agg #[.int .i64 x0, .int .i64 x1, .int .i64 x2, .int .i64 x3, .int .i64 x4, .int .i64 x5, .int .i64 x6, .int .i64 x7]) (.int .i64 6)).run Try.prog w = .ok (.int .i64 x6) w := by kernel_rfl
theorem ag_ix7 (w : World) (x0 x1 x2 x3 x4 x5 x6 x7 : Int) : (Instr.index 137 (.agg #[.int .i64 x0, .int .i64 x1, .int .i64 x2, .int .i64 x3, .int .i64 x4, .int .i64 x5, .int .i64 x6, .int .i64 x7]) (.int .i64 7)).run Try.prog w = .ok (.int .i64 x7) w := by kernel_rfl
theorem ag_index (w : World) (vt : List Int) (h : vt.length = 8) (k : Nat) (hk : k < 8) : (Instr.index 137 (.agg (nums .i64 vt).toArray) (.int .i64 (k : Int))).run Try.prog w = .ok (.int .i64 (vt.getD k 0)) w := by
  match vt, h with
  | [x0, x1, x2, x3, x4, x5, x6, x7], _ =>
    match k, hk with
    | 0, _ => exact ag_ix0 w x0 x1 x2 x3 x4 x5 x6 x7
    | 1, _ => exact ag_ix1 w x0 x1 x2 x3 x4 x5 x6 x7
    | 2, _ => exact ag_ix2 w x0 x1 x2 x3 x4 x5 x6 x7
    | 3, _ => exact ag_ix3 w x0 x1 x2 x3 x4 x5 x6 x7
    | 4, _ => exact ag_ix4 w x0 x1 x2 x3 x4 x5 x6 x7
    | 5, _ => exact ag_ix5 w x0 x1 x2 x3 x4 x5 x6 x7
    | 6, _ => exact ag_ix6 w x0 x1 x2 x3 x4 x5 x6 x7
    | 7, _ => exact ag_ix7 w x0 x1 x2 x3 x4 x5 x6 x7
def cntV (l : List Int) (what : Int) : Nat := (l.filter fun x => x == what && x != -1).length
theorem cntV_le (l : List Int) (what : Int) : cntV l what ≤ l.length := List.length_filter_le _ _
theorem cntV_step (l : List Int) (what : Int) (k : Nat) (hk : k < l.length) : cntV (l.take (k + 1)) what = cntV (l.take k) what + (if (l.getD k 0 == what && l.getD k 0 != -1) = true then 1 else 0) := by
  have e : l.take (k + 1) = l.take k ++ [l.getD k 0] := by
    rw [List.getD_eq_getElem?_getD, List.getElem?_eq_getElem hk]
    exact List.take_succ_eq_append_getElem hk
  unfold cntV
  rw [e, List.filter_append, List.length_append]
  congr 1
  rw [List.filter_cons, List.filter_nil]
  split <;> rfl
set_option maxHeartbeats 4000000 in
set_option maxRecDepth 100000 in
theorem ag_count (vt : List Int) (hl : vt.length = 8) (what : Int) (w : World) : Calls Try.prog 90 #[vA vt, .int .i64 what] w fun e w' => e = .returned (.int .i64 (cntV vt what : Int)) ∧ Below w.heap.size w w' := by
  have I0 := ag_size
  have HL := Aside0.mk hl
  have hsz := vA_size hl
  unfold vA
  go_enter Try.func90, Try.ntmps90
  go_wp2_with ((with_reducible refine gate_dst (N := 8) rfl ?_); refine wpList_load_row rfl 137 (.tmp 2) rfl w.heap.size rfl 137 (nums .i64 vt).toArray (0, 0) _ (heap_alloc_new _ _) Try.underlying137 rfl (by rw [vA_size HL.out]; exact ag_size) ?_; simp only [Act.put, List.setIfInBounds_toArray, List.set_cons_zero, List.set_cons_succ])
  go_loopw [5, 9] (fun v5 v9 wr => ∃ k : Nat, k ≤ 8 ∧ v9 = .int .i64 k ∧ v5 = .int .i64 (cntV (vt.take k) what : Int) ∧ Aside0 (Below w.heap.size w wr)) (fun _ v9 _ => 8 - (intOf v9).toNat)
  case atStart => exact ⟨0, by decide, rfl, rfl, ⟨(Below.refl _ w).alloc (Nat.le_refl _) _⟩⟩
  case round =>
    obtain ⟨k, hk, rfl, rfl, HB⟩ := hrel
    by_cases hlt : k < 8
    · have hix := fun w => ag_index w vt HL.out k hlt
      have hst := cntV_step vt what k (by rw [HL.out]; exact hlt)
      have hcl := cntV_le (vt.take k) what
      have hcl2 : (vt.take k).length ≤ 8 := by rw [List.length_take]; omega
      obtain ⟨x, hx⟩ : ∃ x, vt.getD k 0 = x := ⟨_, rfl⟩
      obtain ⟨cn, hcn⟩ : ∃ cn, cntV (vt.take k) what = cn := ⟨_, rfl⟩
      rw [hx] at hst
      simp only [hx] at hix
      rw [hcn] at hst hcl ⊢
      have j1 : (k : Int) < 8 := by omega
      have HST := Aside0.mk hst
      clear hx hcn hst
      by_cases h1 : x = what
      · by_cases h2 : x = -1
        · have hs := HST.out
          subst h1
          subst h2
          rw [if_neg (by decide)] at hs
          clear HST
          have HS := Aside0.mk hs
          clear hs
          go_wp2
          refine ⟨⟨k + 1, hlt, by simp, by rw [HS.out]; rfl, HB⟩, ?_⟩
          simp [intOf]
          omega
        · have hs := HST.out
          subst h1
          rw [if_pos (by simp [h2])] at hs
          clear HST
          have HS := Aside0.mk hs
          clear hs
          go_wp2
          refine ⟨⟨k + 1, hlt, by simp, by rw [HS.out]; simp, HB⟩, ?_⟩
          simp [intOf]
          omega
      · have hs := HST.out
        rw [if_neg (by simp [h1])] at hs
        clear HST
        have HS := Aside0.mk hs
        clear hs
        go_wp2
        refine ⟨⟨k + 1, hlt, by simp, by rw [HS.out]; rfl, HB⟩, ?_⟩
        simp [intOf]
        omega
    · obtain rfl : k = 8 := by omega
      have e : vt.take 8 = vt := List.take_of_length_le (by rw [HL.out]; exact Nat.le_refl _)
      rw [e]
      go_wp2
      go_ret
      exact ⟨rfl, HB.out⟩
end Go.Proofs.Ytbkchjiiaehhpaa.Obj
