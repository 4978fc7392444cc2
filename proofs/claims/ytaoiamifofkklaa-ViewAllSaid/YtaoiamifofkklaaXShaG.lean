/- Contracts of Go functions that the claims of this seat share. -/
import Derived.Test.YtaoiamifofkklaaProg
import Derived.Below
import Derived.Deep.Draws
import Derived.Deep.AppendLies
import Derived.Maps.AppendAt
import Derived.OwnWalk
import Derived.Laws.BytesArg
import Derived.Laws.MakeOwn
import Derived.Laws.OwnMore
import Derived.Deep.OwnRows
import Derived.Tactics
import Derived.Lib.ConvBytes
import Derived.Laws.Slices
import Derived.WalkKit
import Derived.KernelRfl
import Derived.RowKit3
import Derived.Deep.LoopGhost
import Derived.Deep.QuietTactic
import Derived.BigQuiet
import Derived.WideLaws
import Derived.Deep.DeepCutAuto
import Derived.Deep.CutBlock
import Derived.Deep.RegionHeld3
import Derived.Laws.Rows
import Derived.Lib.AppendStr
import Derived.ArgAppend
import Derived.Laws.IdiomCopy
import Derived.OrdersHeld
import Derived.Laws.BitsLemmas
import Derived.RowKit
import Derived.Lib.OthersKept
import Derived.Test.YtaoiamifofkklaaWWords
import Derived.Test.YtaoiamifofkklaaWLast
import Derived.Test.YtaoiamifofkklaaWTab
import Derived.Test.YtaoiamifofkklaaWFour
import Derived.Test.YtaoiamifofkklaaWQPut
import Derived.Test.YtaoiamifofkklaaWApart
import Derived.Test.YtaoiamifofkklaaWArr
import Derived.Test.YtaoiamifofkklaaWZeros
import Derived.Test.YtaoiamifofkklaaWFoot
import Derived.Test.YtaoiamifofkklaaWKept
import Derived.Test.YtaoiamifofkklaaWShare
import Derived.Test.YtaoiamifofkklaaWN
import Derived.Test.YtaoiamifofkklaaWFootNe
import Derived.Test.YtaoiamifofkklaaWAt
import Derived.Test.YtaoiamifofkklaaWEqStruct
import Derived.Test.YtaoiamifofkklaaWRepsOne
import Derived.Test.YtaoiamifofkklaaWInv
import Derived.Test.YtaoiamifofkklaaWInvWords
import Derived.Test.YtaoiamifofkklaaWGuard
import Derived.Test.YtaoiamifofkklaaWNEv
import Derived.Test.YtaoiamifofkklaaWMore
import Derived.Test.YtaoiamifofkklaaX0Mem
import Derived.Test.YtaoiamifofkklaaX1Pure
import Derived.Test.YtaoiamifofkklaaXShaF
import Derived.Deep.DeepCutAuto
namespace Go.Proofs.Ytaoiamifofkklaa.Obj
open Go.RowKit Go.Proofs.YtaoiamifofkklaaW.PrintWords Go.Proofs.YtaoiamifofkklaaW.PrintLast Go.Proofs.YtaoiamifofkklaaW.PrintMore
set_option linter.unusedVariables false
set_option linter.unusedSimpArgs false
def sm3.T3 : Bool × List (List Nat × List Nat) := (true, [([], []), ([0], [0]), ([1], [1]), ([2], [2]), ([], []), ([], []), ([], []), ([5, 3, 4, 0, 1, 2, 3, 4, 5, 6], [3, 5]), ([6, 4, 7, 0, 1, 2, 3, 4, 5, 6, 7], [4, 6])])
def sm3.B3 : List Nat := [0, 1, 3, 7, 0, 0, 0, 127, 255]
theorem sm3.tab3 : rtab .any (opsOf Try.f91 3) = sm3.T3 := by kernel_rfl
theorem sm3.bits3 : waitsOk sm3.T3.2 sm3.B3 = true := by kernel_rfl
open Go.Proofs.Ytaoiamifofkklaa.PShaH
section
variable {P : Program} {ops : Array Oper} {o : Oper} {a : Act} {Q : Exit → Act → World → Prop} {Kc : Act → World → Prop}
/-- a new variable, as one step of a region that draws -/
theorem step_alloc {W : World} (hw : Region.wanted o (yielded ops a.tmps) = true) (N : Tmp) (hN : o.dst = some N) (cs : Array Value) (t : TypeId) (hrun : (execOp a.eval o).run P W = .ok (.value (.pointer (some ⟨W.heap.size, 0, none⟩))) (W.alloc (.cells cs t)))
    (h : ∀ B W1, W1.heap[B]? = some (.cells cs t (0, 0)) → W.heap.size ≤ B → Below W.heap.size W W1 → Kc (a.put (some N) (.pointer (some ⟨B, 0, none⟩))) W1) : if Region.wanted o (yielded ops a.tmps) = true then Oper.wp P o a W Kc Q else Kc (a.put (some N) undef) W := by
  rw [if_pos hw]
  unfold Oper.wp
  rw [hrun]
  show Kc (a.put o.dst _) _
  rw [hN]
  exact h _ _ (heap_alloc_new _ _) (Nat.le_refl _) ((Below.refl _ W).alloc (Nat.le_refl _) _)
/-- a whole array into a variable, as one step of a region that draws -/
theorem step_arrStore {W : World} (hw : Region.wanted o (yielded ops a.tmps) = true) (hN : o.dst = none) (t : TypeId) (p v : Operand) (ho : o.op = .store t p v) (B : Nat) (old new : Array Value) (hp : a.eval p = .pointer (some ⟨B, 0, none⟩)) (hv : a.eval v = .agg new)
    (hh : W.heap[B]? = some (.cells old t (0, 0))) (hi : (P.info? t).map (·.size) = some new.size) (hs : old.size = new.size) (h1 : new.all (·.oneCell') = true)
    (h : ∀ W1, W1.heap[B]? = some (.cells new t (0, 0)) → W.grownBy W1 (some B) → Kc a W1) : if Region.wanted o (yielded ops a.tmps) = true then Oper.wp P o a W Kc Q else Kc (a.put none undef) W := by
  refine skip_ hw hN (w1 := W.setRow B new) ?_ (h _ (setRow_heap W B _ _ t _ hh) ⟨rfl, rfl, rfl, by simp [World.setRow], fun i hi hne => setRow_other W B i _ (by intro e'; subst e'; exact hne rfl)⟩)
  unfold execOp
  simp only [ho, hp, hv, Instr.storeAt, Instr.sureAddr, Sem.run_bind, Sem.run_pure, Result.andThen_ok, run_storeVar_row W B t t old new hh hi hs h1]
end
theorem blk_apart {W : World} {B B' : Nat} {c c' : Array Value} {t t' : TypeId} (h : W.heap[B]? = some (.cells c t (0, 0))) (h' : W.heap[B']? = some (.cells c' t' (0, 0))) (hn : t ≠ t') : B ≠ B' := by
  rintro rfl
  rw [h] at h'
  injection h' with h'
  injection h' with _ h'
  exact hn h'
theorem grown_keep {W W1 : World} {B B' : Nat} {o : Obj} (h : W.heap[B']? = some o) (hg : W.grownBy W1 (some B)) (hn : B ≠ B') : W1.heap[B']? = some o :=
  (hg.block B' (Array.getElem?_eq_some_iff.1 h).1 (by intro e; injection e with e; exact hn e.symm)).trans h
theorem grown_below {w W W1 : World} {B : Nat} (h : Below w.heap.size w W) (hg : W.grownBy W1 (some B)) (hB : w.heap.size ≤ B) : Below w.heap.size w W1 := h.grown hg h.size (fun k hk => by injection hk with hk; omega)
theorem dg_cells {W : World} {base D : Nat} {v : Value} {a b cc d e f g h : BitVec 32} {left : List Int} {n : Nat} (q : Dg W base D v ⟨a, b, cc, d, e, f, g, h⟩ left n) : W.cell? ⟨D, 0, none⟩ = some (.int .u32 (a.toNat : Int)) ∧ W.cell? ⟨D, 1, none⟩ = some (.int .u32 (b.toNat : Int)) ∧ W.cell? ⟨D, 2, none⟩ = some (.int .u32 (cc.toNat : Int)) ∧ W.cell? ⟨D, 3, none⟩ = some (.int .u32 (d.toNat : Int)) ∧ W.cell? ⟨D, 4, none⟩ = some (.int .u32 (e.toNat : Int)) ∧ W.cell? ⟨D, 5, none⟩ = some (.int .u32 (f.toNat : Int)) ∧ W.cell? ⟨D, 6, none⟩ = some (.int .u32 (g.toNat : Int)) ∧ W.cell? ⟨D, 7, none⟩ = some (.int .u32 (h.toNat : Int)) :=
  ⟨(dg_cell q 0).trans rfl, (dg_cell q 1).trans rfl, (dg_cell q 2).trans rfl, (dg_cell q 3).trans rfl, (dg_cell q 4).trans rfl, (dg_cell q 5).trans rfl, (dg_cell q 6).trans rfl, (dg_cell q 7).trans rfl⟩
def w8B (s : W8) : List Int := (w8I s).flatMap (bytesBE 4)
theorem padL_b {l : List Int} (h : IsB l) : IsB (padL l) := by
  unfold padL
  refine IsB.append (IsB.append h (IsB.cons (by decide) (by decide) IsB.nil)) ?_
  intro x hx
  rw [List.eq_of_mem_replicate hx]
  decide
theorem st_set8 {w : World} {B : Nat} {a b c d e f g h : BitVec 32} (q : w.heap[B]? = some (.cells (w8A ⟨a, b, c, d, e, f, g, h⟩) 138 (0, 0))) (a1 b1 c1 d1 e1 f1 g1 h1 : BitVec 32) : ((((((((w.setCell ⟨B, 0, none⟩ (.int .u32 (a1.toNat : Int))).setCell ⟨B, 1, none⟩ (.int .u32 (b1.toNat : Int))).setCell ⟨B, 2, none⟩ (.int .u32 (c1.toNat : Int))).setCell ⟨B, 3, none⟩ (.int .u32 (d1.toNat : Int))).setCell ⟨B, 4, none⟩ (.int .u32 (e1.toNat : Int))).setCell ⟨B, 5, none⟩ (.int .u32 (f1.toNat : Int))).setCell ⟨B, 6, none⟩ (.int .u32 (g1.toNat : Int))).setCell ⟨B, 7, none⟩ (.int .u32 (h1.toNat : Int))).heap[B]? = some (.cells (w8A ⟨a1, b1, c1, d1, e1, f1, g1, h1⟩) 138 (0, 0)) := by
  unfold w8A at q ⊢
  have q0 := heap_setCell_same _ B 0 _ _ (.int .u32 (a1.toNat : Int)) q
  have q1 := heap_setCell_same _ B 1 _ _ (.int .u32 (b1.toNat : Int)) q0
  have q2 := heap_setCell_same _ B 2 _ _ (.int .u32 (c1.toNat : Int)) q1
  have q3 := heap_setCell_same _ B 3 _ _ (.int .u32 (d1.toNat : Int)) q2
  have q4 := heap_setCell_same _ B 4 _ _ (.int .u32 (e1.toNat : Int)) q3
  have q5 := heap_setCell_same _ B 5 _ _ (.int .u32 (f1.toNat : Int)) q4
  have q6 := heap_setCell_same _ B 6 _ _ (.int .u32 (g1.toNat : Int)) q5
  have q7 := heap_setCell_same _ B 7 _ _ (.int .u32 (h1.toNat : Int)) q6
  simp only [List.setIfInBounds_toArray, List.set_cons_zero, List.set_cons_succ] at q7
  exact q7
theorem st_C {w : World} {B : Nat} {s : W8} (q : w.heap[B]? = some (.cells (w8A s) 138 (0, 0))) : Kd.C (Kd.int .u32) w (some ⟨B, 0, none⟩) 8 (w8I s) := by
  obtain ⟨a, b, c, d, e, f, g, h⟩ := s
  obtain ⟨q0, q1, q2, q3, q4, q5, q6, q7⟩ := st_cells q
  refine Kd.C_of_reads (d := (0 : Int)) (h1 := fun _ => rfl) ⟨rfl, by simp [w8I], fun _ => ⟨_, rfl, fun k hk => ?_⟩⟩
  rw [Addr.add_mid, Nat.zero_add]
  have hk8 : k < 8 := by simpa [w8I] using hk
  match k, hk8 with
  | 0, _ => exact q0
  | 1, _ => exact q1
  | 2, _ => exact q2
  | 3, _ => exact q3
  | 4, _ => exact q4
  | 5, _ => exact q5
  | 6, _ => exact q6
  | 7, _ => exact q7
theorem w8I_w (s : W8) : ∀ x ∈ w8I s, 0 ≤ x ∧ x < 4294967296 := by
  intro x hx
  simp only [w8I, List.mem_cons, List.not_mem_nil, or_false] at hx
  rcases hx with rfl | rfl | rfl | rfl | rfl | rfl | rfl | rfl
  · have := x_lt 32 s.a; omega
  · have := x_lt 32 s.b; omega
  · have := x_lt 32 s.c; omega
  · have := x_lt 32 s.d; omega
  · have := x_lt 32 s.e; omega
  · have := x_lt 32 s.f; omega
  · have := x_lt 32 s.g; omega
  · have := x_lt 32 s.h; omega
theorem sh_put8 (B : Nat) (s : W8) (w : World) (q : w.heap[B]? = some (.cells (w8A s) 138 (0, 0))) :
    Calls Try.prog 82 #[.slice none 0 0, .slice (some ⟨B, 0, none⟩) 8 8] w fun e w' => ∃ v, e = .returned v ∧ Kd.R (Kd.int .u8) 5 w' w.heap.size (fun _ => True) v (w8B s) ∧ Below w.heap.size w w' := by
  have hl : (w8I s).length = 8 := rfl
  have h := word_Put.calls 30 none 0 [] (some ⟨B, 0, none⟩) 8 (w8I s) _ w (Kd.C_of_reads (d := (0 : Int)) (h1 := fun _ => rfl) ⟨rfl, by simp, fun h => by simp at h⟩) (by simp) (by rw [hl]; exact st_C q) (by rw [hl]; exact Nat.le_refl _) (put_is [] (w8I s) (w8I_w s) (by rw [hl]; decide) 30 (by rw [hl]; decide) (by simp))
  rw [List.nil_append] at h
  exact h
set_option maxHeartbeats 8000000 in
set_option maxRecDepth 100000 in
theorem sh_sum (D base : Nat) (v : Value) (s : W8) (left : List Int) (n : Nat) (w : World) (h : Dg w base D v s left n) (hl : left.length < 64) (hn : n ≤ 1048576) (hx : IsB left) :
    Calls Try.prog 91 #[.pointer (some ⟨D, 0, none⟩)] w fun e w' => ∃ v', e = .returned (.tuple #[v', .int .i64 0]) ∧ Kd.R (Kd.int .u8) 5 w' w.heap.size (fun _ => True) v' (w8B (foldN ((padL left ++ bytesBE 8 (8 * n)).length / 64) (padL left ++ bytesBE 8 (8 * n)) s)) ∧ Below w.heap.size w w' := by
  have hu := Try.underlying141
  have H := Aside0.mk h
  have HLL := Aside0.mk hl
  have HN := Aside0.mk hn
  have HX := Aside0.mk hx
  have g10 := (dg_cell h 10).trans rfl
  have I1 : Aside0 ((Try.prog.info? 142).map (·.size) = some 64) := ⟨by kernel_rfl⟩
  have I2 : Aside0 ((Try.prog.info? 138).map (·.size) = some 8) := ⟨by kernel_rfl⟩
  clear h hl hn hx
  obtain ⟨a, b, cc, d, e, f, g, h⟩ := s
  have CS : Aside0 (∀ W, Below w.heap.size w W → Dg W base D v ⟨a, b, cc, d, e, f, g, h⟩ left n) := ⟨fun W hb => H.out.below hb⟩
  go_enter Try.func91, Try.ntmps91
  go_upto_region 3 with (go_at_call 101; (with_reducible refine (sh_none D _ g10).mono ?_); rintro e w ⟨rfl, rfl⟩)
  go_cut [4, 5] (fun s4 s5 wx => ∃ B4 B5 : Nat, s4 = .pointer (some ⟨B4, 0, none⟩) ∧ s5 = .pointer (some ⟨B5, 0, none⟩) ∧ Aside0 (wx.heap[B4]? = some (.cells (w8A ⟨a, b, cc, d, e, f, g, h⟩) 138 (0, 0))) ∧ Aside0 (wx.heap[B5]? = some (.cells (row64 KT) 142 (0, 0))) ∧ Aside0 (w.heap.size ≤ B4) ∧ Aside0 (Below w.heap.size w wx))
  case first =>
    have HB := Aside0.mk (Below.refl w.heap.size w)
    refine start_ (n := 9) (S := fun w' => w'.cell? ⟨D, 0, none⟩ = some (.int .u32 (a.toNat : Int)) ∧ w'.cell? ⟨D, 1, none⟩ = some (.int .u32 (b.toNat : Int)) ∧ w'.cell? ⟨D, 2, none⟩ = some (.int .u32 (cc.toNat : Int)) ∧ w'.cell? ⟨D, 3, none⟩ = some (.int .u32 (d.toNat : Int)) ∧ w'.cell? ⟨D, 4, none⟩ = some (.int .u32 (e.toNat : Int)) ∧ w'.cell? ⟨D, 5, none⟩ = some (.int .u32 (f.toNat : Int)) ∧ w'.cell? ⟨D, 6, none⟩ = some (.int .u32 (g.toNat : Int)) ∧ w'.cell? ⟨D, 7, none⟩ = some (.int .u32 (h.toNat : Int))) (ds := []) #[false, false, false, false, false, false, false, false, false] (by kernel_rfl) rfl rfl (dg_cells (CS.out _ (by repeat (first | exact HB.out | apply below_drew | apply below_alloc | apply pw_below_drewN)))) (fun hHeld => ?_); refine with_tabW sm3.tab3 sm3.bits3 (fun HT_ HW_ => ?_)
    refine take_ (i := 0) (N := (some 9)) (v := ?_) (a' := ?_) #[true, false, false, false, false, false, false, false, false] rfl rfl (take_ofW HT_.out HW_.out (by kernel_rfl)) (fun _ _ _ h => h) (Or.inl ⟨by rfl, ?_⟩) hHeld ?_ ?_
    rotate_left
    · rintro w' ⟨s0_, s1_, s2_, s3_, s4_, s5_, s6_, s7_⟩
      go_simp
      with_reducible rfl
    rotate_left
    · simp only [Act.put, List.setIfInBounds_toArray, List.set_cons_zero, List.set_cons_succ, i64_w, i32_w]
      rfl
    refine take_ (i := 1) (N := (some 10)) (v := ?_) (a' := ?_) #[true, true, false, false, false, false, false, false, false] rfl rfl (take_ofW HT_.out HW_.out (by kernel_rfl)) (fun _ _ _ h => h) (Or.inl ⟨by rfl, ?_⟩) hHeld ?_ ?_
    rotate_left
    · rintro w' ⟨s0_, s1_, s2_, s3_, s4_, s5_, s6_, s7_⟩
      go_simp
      with_reducible rfl
    rotate_left
    · simp only [Act.put, List.setIfInBounds_toArray, List.set_cons_zero, List.set_cons_succ, i64_w, i32_w]
      rfl
    refine take_ (i := 2) (N := (some 11)) (v := ?_) (a' := ?_) #[true, true, true, false, false, false, false, false, false] rfl rfl (take_ofW HT_.out HW_.out (by kernel_rfl)) (fun _ _ _ h => h) (Or.inl ⟨by rfl, ?_⟩) hHeld ?_ ?_
    rotate_left
    · rintro w' ⟨s0_, s1_, s2_, s3_, s4_, s5_, s6_, s7_⟩
      go_simp
      with_reducible rfl
    rotate_left
    · simp only [Act.put, List.setIfInBounds_toArray, List.set_cons_zero, List.set_cons_succ, i64_w, i32_w]
      rfl
    refine take_ (i := 3) (N := (some 12)) (v := ?_) (a' := ?_) #[true, true, true, true, false, false, false, false, false] rfl rfl (take_ofW HT_.out HW_.out (by kernel_rfl)) (fun _ _ _ h => h) (Or.inl ⟨by rfl, ?_⟩) hHeld ?_ ?_
    rotate_left
    · rintro w' ⟨s0_, s1_, s2_, s3_, s4_, s5_, s6_, s7_⟩
      go_simp
      with_reducible rfl
    rotate_left
    · simp only [Act.put, List.setIfInBounds_toArray, List.set_cons_zero, List.set_cons_succ, i64_w, i32_w]
      rfl
    refine three_ (i := 4) (j := 5) (k := 6) (Ni := (some 13)) (Nj := (some 4)) (Nk := (some 5)) #[true, true, true, true, true, false, false, false, false] #[true, true, true, true, false, true, false, false, false] #[true, true, true, true, false, false, true, false, false] rfl rfl rfl rfl rfl rfl (three_of HT_.out (by kernel_rfl)) (by decide) (by decide) (by decide) (fun K hK => ?_)  (fun K hK => ?_)  (fun K hK => ?_)
    · skip
      refine goes_ Try.func102 (by kernel_rfl) rfl #[] (by rfl) rfl rfl (by first | rfl | (simp only [List.map_toArray, List.map_cons, List.map_nil]; try rfl)) ?_
      (with_reducible refine (sh_table _).mono ?_)
      rintro e_ w_ ⟨rfl, hb⟩
      (try (have g_ := Aside0.mk (blk_below (by exact G4.out) hb); clear G4; have G4 := g_; clear g_))
      (try (have g_ := Aside0.mk (blk_below (by exact G5.out) hb); clear G5; have G5 := g_; clear g_))
      have HBn := Aside0.mk (below_step (by repeat (first | exact HB.out | apply below_drew | apply below_alloc | apply pw_below_drewN)) hb)
      clear HB hb
      have HB := HBn
      clear HBn
      refine ⟨_, rfl, ?_⟩
      refine hK.out _ _ (dg_cells (CS.out _ (by repeat (first | exact HB.out | apply below_drew | apply below_alloc | apply pw_below_drewN)))) (fun hHeld => ?_)
      clear hK K
      refine norm_ (a' := ?_) ?_ ?_
      rotate_left
      · show Act.put _ (some 13) _ = _
        simp only [Act.put, List.setIfInBounds_toArray, List.set_cons_zero, List.set_cons_succ, i64_w, i32_w]
        rfl
      refine two_ (i := 5) (j := 6) (Ni := (some 4)) (Nj := (some 5)) #[true, true, true, true, true, true, false, false, false] #[true, true, true, true, true, false, true, false, false] rfl rfl rfl rfl (two_of HT_.out (by kernel_rfl)) (by decide) (by decide) (fun K hK => ?_)  (fun K hK => ?_)
      · skip
        refine step_alloc (by rfl) 4 rfl _ _ (by go_simp; with_reducible rfl) (fun B4 w_ hh4 hle hb => ?_)
        have M4 : Aside0 (w.heap.size ≤ B4) := ⟨Nat.le_trans (by exact HB.out.size) hle⟩
        (try (have g_ := Aside0.mk (blk_below (by exact G4.out) hb); clear G4; have G4 := g_; clear g_))
        (try (have g_ := Aside0.mk (blk_below (by exact G5.out) hb); clear G5; have G5 := g_; clear g_))
        have HBn := Aside0.mk (below_step (by repeat (first | exact HB.out | apply below_drew | apply below_alloc | apply pw_below_drewN)) hb)
        clear HB hb
        have HB := HBn
        clear HBn
        have G4 := Aside0.mk hh4
        clear hh4 hle
        refine hK.out _ _ (dg_cells (CS.out _ (by repeat (first | exact HB.out | apply below_drew | apply below_alloc | apply pw_below_drewN)))) (fun hHeld => ?_)
        clear hK K
        refine norm_ (a' := ?_) ?_ ?_
        rotate_left
        · show Act.put _ (some 4) _ = _
          simp only [Act.put, List.setIfInBounds_toArray, List.set_cons_zero, List.set_cons_succ, i64_w, i32_w]
          rfl
        refine one_ (i := 6) (N := (some 5)) #[true, true, true, true, true, true, true, false, false] rfl rfl (one_of HT_.out (by kernel_rfl)) (by decide) (fun K hK => ?_)
        refine step_alloc (by rfl) 5 rfl _ _ (by go_simp; with_reducible rfl) (fun B5 w_ hh5 hle hb => ?_)
        have M5 : Aside0 (w.heap.size ≤ B5) := ⟨Nat.le_trans (by exact HB.out.size) hle⟩
        (try (have g_ := Aside0.mk (blk_below (by exact G4.out) hb); clear G4; have G4 := g_; clear g_))
        (try (have g_ := Aside0.mk (blk_below (by exact G5.out) hb); clear G5; have G5 := g_; clear g_))
        have HBn := Aside0.mk (below_step (by repeat (first | exact HB.out | apply below_drew | apply below_alloc | apply pw_below_drewN)) hb)
        clear HB hb
        have HB := HBn
        clear HBn
        have G5 := Aside0.mk hh5
        clear hh5 hle
        refine hK.out _ _ (dg_cells (CS.out _ (by repeat (first | exact HB.out | apply below_drew | apply below_alloc | apply pw_below_drewN)))) (fun hHeld => ?_)
        clear hK K
        refine norm_ (a' := ?_) ?_ ?_
        rotate_left
        · show Act.put _ (some 5) _ = _
          simp only [Act.put, List.setIfInBounds_toArray, List.set_cons_zero, List.set_cons_succ, i64_w, i32_w]
          rfl
        refine one_ (i := 7) (N := none) #[true, true, true, true, true, true, true, true, false] rfl rfl (one_of HT_.out (by kernel_rfl)) (by decide) (fun K hK => ?_)
        refine step_arrStore (by rfl) rfl 138 (.tmp 4) (.tmp 12) rfl B4 #[.int .u32 0, .int .u32 0, .int .u32 0, .int .u32 0, .int .u32 0, .int .u32 0, .int .u32 0, .int .u32 0] (w8A ⟨a, b, cc, d, e, f, g, h⟩) rfl rfl (by exact G4.out) I2.out rfl (st_one _ _ _ _ _ _ _ _) (fun w_ hh hg => ?_)
        have g5_ := Aside0.mk (grown_keep (by exact G5.out) hg (blk_apart G4.out G5.out (by decide)))
        have hb_ := Aside0.mk (grown_below (by exact HB.out) hg M4.out)
        clear HB G4 G5 hg
        have HB := hb_
        have G5 := g5_
        have G4 := Aside0.mk hh
        clear hb_ g5_ hh
        refine hK.out _ _ (dg_cells (CS.out _ (by repeat (first | exact HB.out | apply below_drew | apply below_alloc | apply pw_below_drewN)))) (fun hHeld => ?_)
        clear hK K
        refine one_ (i := 8) (N := none) #[true, true, true, true, true, true, true, true, true] rfl rfl (one_of HT_.out (by kernel_rfl)) (by decide) (fun K hK => ?_)
        refine step_arrStore (by rfl) rfl 142 (.tmp 5) (.tmp 13) rfl B5 (row64 []) (row64 KT) rfl rfl (by exact G5.out) (by rw [row_size KT (by decide)]; exact I1.out) (by rw [row_size KT (by decide), row_size [] (by simp)]) (row_one _) (fun w_ hh hg => ?_)
        have g4_ := Aside0.mk (grown_keep (by exact G4.out) hg (Ne.symm (blk_apart G4.out G5.out (by decide))))
        have hb_ := Aside0.mk (grown_below (by exact HB.out) hg M5.out)
        clear HB G4 G5 hg
        have HB := hb_
        have G4 := g4_
        have G5 := Aside0.mk hh
        clear hb_ g4_ hh
        refine hK.out _ _ (dg_cells (CS.out _ (by repeat (first | exact HB.out | apply below_drew | apply below_alloc | apply pw_below_drewN)))) (fun hHeld => ?_)
        clear hK K
        refine done_ (done_of HT_.out (by kernel_rfl)) ?_
        go_wp2
        go_meet
        exact ⟨B4, B5, rfl, rfl, G4, G5, M4, HB⟩
      · skip
        refine step_alloc (by rfl) 5 rfl _ _ (by go_simp; with_reducible rfl) (fun B5 w_ hh5 hle hb => ?_)
        have M5 : Aside0 (w.heap.size ≤ B5) := ⟨Nat.le_trans (by exact HB.out.size) hle⟩
        (try (have g_ := Aside0.mk (blk_below (by exact G4.out) hb); clear G4; have G4 := g_; clear g_))
        (try (have g_ := Aside0.mk (blk_below (by exact G5.out) hb); clear G5; have G5 := g_; clear g_))
        have HBn := Aside0.mk (below_step (by repeat (first | exact HB.out | apply below_drew | apply below_alloc | apply pw_below_drewN)) hb)
        clear HB hb
        have HB := HBn
        clear HBn
        have G5 := Aside0.mk hh5
        clear hh5 hle
        refine hK.out _ _ (dg_cells (CS.out _ (by repeat (first | exact HB.out | apply below_drew | apply below_alloc | apply pw_below_drewN)))) (fun hHeld => ?_)
        clear hK K
        refine norm_ (a' := ?_) ?_ ?_
        rotate_left
        · show Act.put _ (some 5) _ = _
          simp only [Act.put, List.setIfInBounds_toArray, List.set_cons_zero, List.set_cons_succ, i64_w, i32_w]
          rfl
        refine one_ (i := 5) (N := (some 4)) #[true, true, true, true, true, true, true, false, false] rfl rfl (one_of HT_.out (by kernel_rfl)) (by decide) (fun K hK => ?_)
        refine step_alloc (by rfl) 4 rfl _ _ (by go_simp; with_reducible rfl) (fun B4 w_ hh4 hle hb => ?_)
        have M4 : Aside0 (w.heap.size ≤ B4) := ⟨Nat.le_trans (by exact HB.out.size) hle⟩
        (try (have g_ := Aside0.mk (blk_below (by exact G4.out) hb); clear G4; have G4 := g_; clear g_))
        (try (have g_ := Aside0.mk (blk_below (by exact G5.out) hb); clear G5; have G5 := g_; clear g_))
        have HBn := Aside0.mk (below_step (by repeat (first | exact HB.out | apply below_drew | apply below_alloc | apply pw_below_drewN)) hb)
        clear HB hb
        have HB := HBn
        clear HBn
        have G4 := Aside0.mk hh4
        clear hh4 hle
        refine hK.out _ _ (dg_cells (CS.out _ (by repeat (first | exact HB.out | apply below_drew | apply below_alloc | apply pw_below_drewN)))) (fun hHeld => ?_)
        clear hK K
        refine norm_ (a' := ?_) ?_ ?_
        rotate_left
        · show Act.put _ (some 4) _ = _
          simp only [Act.put, List.setIfInBounds_toArray, List.set_cons_zero, List.set_cons_succ, i64_w, i32_w]
          rfl
        refine one_ (i := 7) (N := none) #[true, true, true, true, true, true, true, true, false] rfl rfl (one_of HT_.out (by kernel_rfl)) (by decide) (fun K hK => ?_)
        refine step_arrStore (by rfl) rfl 138 (.tmp 4) (.tmp 12) rfl B4 #[.int .u32 0, .int .u32 0, .int .u32 0, .int .u32 0, .int .u32 0, .int .u32 0, .int .u32 0, .int .u32 0] (w8A ⟨a, b, cc, d, e, f, g, h⟩) rfl rfl (by exact G4.out) I2.out rfl (st_one _ _ _ _ _ _ _ _) (fun w_ hh hg => ?_)
        have g5_ := Aside0.mk (grown_keep (by exact G5.out) hg (blk_apart G4.out G5.out (by decide)))
        have hb_ := Aside0.mk (grown_below (by exact HB.out) hg M4.out)
        clear HB G4 G5 hg
        have HB := hb_
        have G5 := g5_
        have G4 := Aside0.mk hh
        clear hb_ g5_ hh
        refine hK.out _ _ (dg_cells (CS.out _ (by repeat (first | exact HB.out | apply below_drew | apply below_alloc | apply pw_below_drewN)))) (fun hHeld => ?_)
        clear hK K
        refine one_ (i := 8) (N := none) #[true, true, true, true, true, true, true, true, true] rfl rfl (one_of HT_.out (by kernel_rfl)) (by decide) (fun K hK => ?_)
        refine step_arrStore (by rfl) rfl 142 (.tmp 5) (.tmp 13) rfl B5 (row64 []) (row64 KT) rfl rfl (by exact G5.out) (by rw [row_size KT (by decide)]; exact I1.out) (by rw [row_size KT (by decide), row_size [] (by simp)]) (row_one _) (fun w_ hh hg => ?_)
        have g4_ := Aside0.mk (grown_keep (by exact G4.out) hg (Ne.symm (blk_apart G4.out G5.out (by decide))))
        have hb_ := Aside0.mk (grown_below (by exact HB.out) hg M5.out)
        clear HB G4 G5 hg
        have HB := hb_
        have G4 := g4_
        have G5 := Aside0.mk hh
        clear hb_ g4_ hh
        refine hK.out _ _ (dg_cells (CS.out _ (by repeat (first | exact HB.out | apply below_drew | apply below_alloc | apply pw_below_drewN)))) (fun hHeld => ?_)
        clear hK K
        refine done_ (done_of HT_.out (by kernel_rfl)) ?_
        go_wp2
        go_meet
        exact ⟨B4, B5, rfl, rfl, G4, G5, M4, HB⟩
    · skip
      refine step_alloc (by rfl) 4 rfl _ _ (by go_simp; with_reducible rfl) (fun B4 w_ hh4 hle hb => ?_)
      have M4 : Aside0 (w.heap.size ≤ B4) := ⟨Nat.le_trans (by exact HB.out.size) hle⟩
      (try (have g_ := Aside0.mk (blk_below (by exact G4.out) hb); clear G4; have G4 := g_; clear g_))
      (try (have g_ := Aside0.mk (blk_below (by exact G5.out) hb); clear G5; have G5 := g_; clear g_))
      have HBn := Aside0.mk (below_step (by repeat (first | exact HB.out | apply below_drew | apply below_alloc | apply pw_below_drewN)) hb)
      clear HB hb
      have HB := HBn
      clear HBn
      have G4 := Aside0.mk hh4
      clear hh4 hle
      refine hK.out _ _ (dg_cells (CS.out _ (by repeat (first | exact HB.out | apply below_drew | apply below_alloc | apply pw_below_drewN)))) (fun hHeld => ?_)
      clear hK K
      refine norm_ (a' := ?_) ?_ ?_
      rotate_left
      · show Act.put _ (some 4) _ = _
        simp only [Act.put, List.setIfInBounds_toArray, List.set_cons_zero, List.set_cons_succ, i64_w, i32_w]
        rfl
      refine two_ (i := 4) (j := 6) (Ni := (some 13)) (Nj := (some 5)) #[true, true, true, true, true, true, false, false, false] #[true, true, true, true, false, true, true, false, false] rfl rfl rfl rfl (two_of HT_.out (by kernel_rfl)) (by decide) (by decide) (fun K hK => ?_)  (fun K hK => ?_)
      · skip
        refine goes_ Try.func102 (by kernel_rfl) rfl #[] (by rfl) rfl rfl (by first | rfl | (simp only [List.map_toArray, List.map_cons, List.map_nil]; try rfl)) ?_
        (with_reducible refine (sh_table _).mono ?_)
        rintro e_ w_ ⟨rfl, hb⟩
        (try (have g_ := Aside0.mk (blk_below (by exact G4.out) hb); clear G4; have G4 := g_; clear g_))
        (try (have g_ := Aside0.mk (blk_below (by exact G5.out) hb); clear G5; have G5 := g_; clear g_))
        have HBn := Aside0.mk (below_step (by repeat (first | exact HB.out | apply below_drew | apply below_alloc | apply pw_below_drewN)) hb)
        clear HB hb
        have HB := HBn
        clear HBn
        refine ⟨_, rfl, ?_⟩
        refine hK.out _ _ (dg_cells (CS.out _ (by repeat (first | exact HB.out | apply below_drew | apply below_alloc | apply pw_below_drewN)))) (fun hHeld => ?_)
        clear hK K
        refine norm_ (a' := ?_) ?_ ?_
        rotate_left
        · show Act.put _ (some 13) _ = _
          simp only [Act.put, List.setIfInBounds_toArray, List.set_cons_zero, List.set_cons_succ, i64_w, i32_w]
          rfl
        refine one_ (i := 6) (N := (some 5)) #[true, true, true, true, true, true, true, false, false] rfl rfl (one_of HT_.out (by kernel_rfl)) (by decide) (fun K hK => ?_)
        refine step_alloc (by rfl) 5 rfl _ _ (by go_simp; with_reducible rfl) (fun B5 w_ hh5 hle hb => ?_)
        have M5 : Aside0 (w.heap.size ≤ B5) := ⟨Nat.le_trans (by exact HB.out.size) hle⟩
        (try (have g_ := Aside0.mk (blk_below (by exact G4.out) hb); clear G4; have G4 := g_; clear g_))
        (try (have g_ := Aside0.mk (blk_below (by exact G5.out) hb); clear G5; have G5 := g_; clear g_))
        have HBn := Aside0.mk (below_step (by repeat (first | exact HB.out | apply below_drew | apply below_alloc | apply pw_below_drewN)) hb)
        clear HB hb
        have HB := HBn
        clear HBn
        have G5 := Aside0.mk hh5
        clear hh5 hle
        refine hK.out _ _ (dg_cells (CS.out _ (by repeat (first | exact HB.out | apply below_drew | apply below_alloc | apply pw_below_drewN)))) (fun hHeld => ?_)
        clear hK K
        refine norm_ (a' := ?_) ?_ ?_
        rotate_left
        · show Act.put _ (some 5) _ = _
          simp only [Act.put, List.setIfInBounds_toArray, List.set_cons_zero, List.set_cons_succ, i64_w, i32_w]
          rfl
        refine one_ (i := 7) (N := none) #[true, true, true, true, true, true, true, true, false] rfl rfl (one_of HT_.out (by kernel_rfl)) (by decide) (fun K hK => ?_)
        refine step_arrStore (by rfl) rfl 138 (.tmp 4) (.tmp 12) rfl B4 #[.int .u32 0, .int .u32 0, .int .u32 0, .int .u32 0, .int .u32 0, .int .u32 0, .int .u32 0, .int .u32 0] (w8A ⟨a, b, cc, d, e, f, g, h⟩) rfl rfl (by exact G4.out) I2.out rfl (st_one _ _ _ _ _ _ _ _) (fun w_ hh hg => ?_)
        have g5_ := Aside0.mk (grown_keep (by exact G5.out) hg (blk_apart G4.out G5.out (by decide)))
        have hb_ := Aside0.mk (grown_below (by exact HB.out) hg M4.out)
        clear HB G4 G5 hg
        have HB := hb_
        have G5 := g5_
        have G4 := Aside0.mk hh
        clear hb_ g5_ hh
        refine hK.out _ _ (dg_cells (CS.out _ (by repeat (first | exact HB.out | apply below_drew | apply below_alloc | apply pw_below_drewN)))) (fun hHeld => ?_)
        clear hK K
        refine one_ (i := 8) (N := none) #[true, true, true, true, true, true, true, true, true] rfl rfl (one_of HT_.out (by kernel_rfl)) (by decide) (fun K hK => ?_)
        refine step_arrStore (by rfl) rfl 142 (.tmp 5) (.tmp 13) rfl B5 (row64 []) (row64 KT) rfl rfl (by exact G5.out) (by rw [row_size KT (by decide)]; exact I1.out) (by rw [row_size KT (by decide), row_size [] (by simp)]) (row_one _) (fun w_ hh hg => ?_)
        have g4_ := Aside0.mk (grown_keep (by exact G4.out) hg (Ne.symm (blk_apart G4.out G5.out (by decide))))
        have hb_ := Aside0.mk (grown_below (by exact HB.out) hg M5.out)
        clear HB G4 G5 hg
        have HB := hb_
        have G4 := g4_
        have G5 := Aside0.mk hh
        clear hb_ g4_ hh
        refine hK.out _ _ (dg_cells (CS.out _ (by repeat (first | exact HB.out | apply below_drew | apply below_alloc | apply pw_below_drewN)))) (fun hHeld => ?_)
        clear hK K
        refine done_ (done_of HT_.out (by kernel_rfl)) ?_
        go_wp2
        go_meet
        exact ⟨B4, B5, rfl, rfl, G4, G5, M4, HB⟩
      · skip
        refine step_alloc (by rfl) 5 rfl _ _ (by go_simp; with_reducible rfl) (fun B5 w_ hh5 hle hb => ?_)
        have M5 : Aside0 (w.heap.size ≤ B5) := ⟨Nat.le_trans (by exact HB.out.size) hle⟩
        (try (have g_ := Aside0.mk (blk_below (by exact G4.out) hb); clear G4; have G4 := g_; clear g_))
        (try (have g_ := Aside0.mk (blk_below (by exact G5.out) hb); clear G5; have G5 := g_; clear g_))
        have HBn := Aside0.mk (below_step (by repeat (first | exact HB.out | apply below_drew | apply below_alloc | apply pw_below_drewN)) hb)
        clear HB hb
        have HB := HBn
        clear HBn
        have G5 := Aside0.mk hh5
        clear hh5 hle
        refine hK.out _ _ (dg_cells (CS.out _ (by repeat (first | exact HB.out | apply below_drew | apply below_alloc | apply pw_below_drewN)))) (fun hHeld => ?_)
        clear hK K
        refine norm_ (a' := ?_) ?_ ?_
        rotate_left
        · show Act.put _ (some 5) _ = _
          simp only [Act.put, List.setIfInBounds_toArray, List.set_cons_zero, List.set_cons_succ, i64_w, i32_w]
          rfl
        refine one_ (i := 4) (N := (some 13)) #[true, true, true, true, true, true, true, false, false] rfl rfl (one_of HT_.out (by kernel_rfl)) (by decide) (fun K hK => ?_)
        refine goes_ Try.func102 (by kernel_rfl) rfl #[] (by rfl) rfl rfl (by first | rfl | (simp only [List.map_toArray, List.map_cons, List.map_nil]; try rfl)) ?_
        (with_reducible refine (sh_table _).mono ?_)
        rintro e_ w_ ⟨rfl, hb⟩
        (try (have g_ := Aside0.mk (blk_below (by exact G4.out) hb); clear G4; have G4 := g_; clear g_))
        (try (have g_ := Aside0.mk (blk_below (by exact G5.out) hb); clear G5; have G5 := g_; clear g_))
        have HBn := Aside0.mk (below_step (by repeat (first | exact HB.out | apply below_drew | apply below_alloc | apply pw_below_drewN)) hb)
        clear HB hb
        have HB := HBn
        clear HBn
        refine ⟨_, rfl, ?_⟩
        refine hK.out _ _ (dg_cells (CS.out _ (by repeat (first | exact HB.out | apply below_drew | apply below_alloc | apply pw_below_drewN)))) (fun hHeld => ?_)
        clear hK K
        refine norm_ (a' := ?_) ?_ ?_
        rotate_left
        · show Act.put _ (some 13) _ = _
          simp only [Act.put, List.setIfInBounds_toArray, List.set_cons_zero, List.set_cons_succ, i64_w, i32_w]
          rfl
        refine one_ (i := 7) (N := none) #[true, true, true, true, true, true, true, true, false] rfl rfl (one_of HT_.out (by kernel_rfl)) (by decide) (fun K hK => ?_)
        refine step_arrStore (by rfl) rfl 138 (.tmp 4) (.tmp 12) rfl B4 #[.int .u32 0, .int .u32 0, .int .u32 0, .int .u32 0, .int .u32 0, .int .u32 0, .int .u32 0, .int .u32 0] (w8A ⟨a, b, cc, d, e, f, g, h⟩) rfl rfl (by exact G4.out) I2.out rfl (st_one _ _ _ _ _ _ _ _) (fun w_ hh hg => ?_)
        have g5_ := Aside0.mk (grown_keep (by exact G5.out) hg (blk_apart G4.out G5.out (by decide)))
        have hb_ := Aside0.mk (grown_below (by exact HB.out) hg M4.out)
        clear HB G4 G5 hg
        have HB := hb_
        have G5 := g5_
        have G4 := Aside0.mk hh
        clear hb_ g5_ hh
        refine hK.out _ _ (dg_cells (CS.out _ (by repeat (first | exact HB.out | apply below_drew | apply below_alloc | apply pw_below_drewN)))) (fun hHeld => ?_)
        clear hK K
        refine one_ (i := 8) (N := none) #[true, true, true, true, true, true, true, true, true] rfl rfl (one_of HT_.out (by kernel_rfl)) (by decide) (fun K hK => ?_)
        refine step_arrStore (by rfl) rfl 142 (.tmp 5) (.tmp 13) rfl B5 (row64 []) (row64 KT) rfl rfl (by exact G5.out) (by rw [row_size KT (by decide)]; exact I1.out) (by rw [row_size KT (by decide), row_size [] (by simp)]) (row_one _) (fun w_ hh hg => ?_)
        have g4_ := Aside0.mk (grown_keep (by exact G4.out) hg (Ne.symm (blk_apart G4.out G5.out (by decide))))
        have hb_ := Aside0.mk (grown_below (by exact HB.out) hg M5.out)
        clear HB G4 G5 hg
        have HB := hb_
        have G4 := g4_
        have G5 := Aside0.mk hh
        clear hb_ g4_ hh
        refine hK.out _ _ (dg_cells (CS.out _ (by repeat (first | exact HB.out | apply below_drew | apply below_alloc | apply pw_below_drewN)))) (fun hHeld => ?_)
        clear hK K
        refine done_ (done_of HT_.out (by kernel_rfl)) ?_
        go_wp2
        go_meet
        exact ⟨B4, B5, rfl, rfl, G4, G5, M4, HB⟩
    · skip
      refine step_alloc (by rfl) 5 rfl _ _ (by go_simp; with_reducible rfl) (fun B5 w_ hh5 hle hb => ?_)
      have M5 : Aside0 (w.heap.size ≤ B5) := ⟨Nat.le_trans (by exact HB.out.size) hle⟩
      (try (have g_ := Aside0.mk (blk_below (by exact G4.out) hb); clear G4; have G4 := g_; clear g_))
      (try (have g_ := Aside0.mk (blk_below (by exact G5.out) hb); clear G5; have G5 := g_; clear g_))
      have HBn := Aside0.mk (below_step (by repeat (first | exact HB.out | apply below_drew | apply below_alloc | apply pw_below_drewN)) hb)
      clear HB hb
      have HB := HBn
      clear HBn
      have G5 := Aside0.mk hh5
      clear hh5 hle
      refine hK.out _ _ (dg_cells (CS.out _ (by repeat (first | exact HB.out | apply below_drew | apply below_alloc | apply pw_below_drewN)))) (fun hHeld => ?_)
      clear hK K
      refine norm_ (a' := ?_) ?_ ?_
      rotate_left
      · show Act.put _ (some 5) _ = _
        simp only [Act.put, List.setIfInBounds_toArray, List.set_cons_zero, List.set_cons_succ, i64_w, i32_w]
        rfl
      refine two_ (i := 4) (j := 5) (Ni := (some 13)) (Nj := (some 4)) #[true, true, true, true, true, false, true, false, false] #[true, true, true, true, false, true, true, false, false] rfl rfl rfl rfl (two_of HT_.out (by kernel_rfl)) (by decide) (by decide) (fun K hK => ?_)  (fun K hK => ?_)
      · skip
        refine goes_ Try.func102 (by kernel_rfl) rfl #[] (by rfl) rfl rfl (by first | rfl | (simp only [List.map_toArray, List.map_cons, List.map_nil]; try rfl)) ?_
        (with_reducible refine (sh_table _).mono ?_)
        rintro e_ w_ ⟨rfl, hb⟩
        (try (have g_ := Aside0.mk (blk_below (by exact G4.out) hb); clear G4; have G4 := g_; clear g_))
        (try (have g_ := Aside0.mk (blk_below (by exact G5.out) hb); clear G5; have G5 := g_; clear g_))
        have HBn := Aside0.mk (below_step (by repeat (first | exact HB.out | apply below_drew | apply below_alloc | apply pw_below_drewN)) hb)
        clear HB hb
        have HB := HBn
        clear HBn
        refine ⟨_, rfl, ?_⟩
        refine hK.out _ _ (dg_cells (CS.out _ (by repeat (first | exact HB.out | apply below_drew | apply below_alloc | apply pw_below_drewN)))) (fun hHeld => ?_)
        clear hK K
        refine norm_ (a' := ?_) ?_ ?_
        rotate_left
        · show Act.put _ (some 13) _ = _
          simp only [Act.put, List.setIfInBounds_toArray, List.set_cons_zero, List.set_cons_succ, i64_w, i32_w]
          rfl
        refine one_ (i := 5) (N := (some 4)) #[true, true, true, true, true, true, true, false, false] rfl rfl (one_of HT_.out (by kernel_rfl)) (by decide) (fun K hK => ?_)
        refine step_alloc (by rfl) 4 rfl _ _ (by go_simp; with_reducible rfl) (fun B4 w_ hh4 hle hb => ?_)
        have M4 : Aside0 (w.heap.size ≤ B4) := ⟨Nat.le_trans (by exact HB.out.size) hle⟩
        (try (have g_ := Aside0.mk (blk_below (by exact G4.out) hb); clear G4; have G4 := g_; clear g_))
        (try (have g_ := Aside0.mk (blk_below (by exact G5.out) hb); clear G5; have G5 := g_; clear g_))
        have HBn := Aside0.mk (below_step (by repeat (first | exact HB.out | apply below_drew | apply below_alloc | apply pw_below_drewN)) hb)
        clear HB hb
        have HB := HBn
        clear HBn
        have G4 := Aside0.mk hh4
        clear hh4 hle
        refine hK.out _ _ (dg_cells (CS.out _ (by repeat (first | exact HB.out | apply below_drew | apply below_alloc | apply pw_below_drewN)))) (fun hHeld => ?_)
        clear hK K
        refine norm_ (a' := ?_) ?_ ?_
        rotate_left
        · show Act.put _ (some 4) _ = _
          simp only [Act.put, List.setIfInBounds_toArray, List.set_cons_zero, List.set_cons_succ, i64_w, i32_w]
          rfl
        refine one_ (i := 7) (N := none) #[true, true, true, true, true, true, true, true, false] rfl rfl (one_of HT_.out (by kernel_rfl)) (by decide) (fun K hK => ?_)
        refine step_arrStore (by rfl) rfl 138 (.tmp 4) (.tmp 12) rfl B4 #[.int .u32 0, .int .u32 0, .int .u32 0, .int .u32 0, .int .u32 0, .int .u32 0, .int .u32 0, .int .u32 0] (w8A ⟨a, b, cc, d, e, f, g, h⟩) rfl rfl (by exact G4.out) I2.out rfl (st_one _ _ _ _ _ _ _ _) (fun w_ hh hg => ?_)
        have g5_ := Aside0.mk (grown_keep (by exact G5.out) hg (blk_apart G4.out G5.out (by decide)))
        have hb_ := Aside0.mk (grown_below (by exact HB.out) hg M4.out)
        clear HB G4 G5 hg
        have HB := hb_
        have G5 := g5_
        have G4 := Aside0.mk hh
        clear hb_ g5_ hh
        refine hK.out _ _ (dg_cells (CS.out _ (by repeat (first | exact HB.out | apply below_drew | apply below_alloc | apply pw_below_drewN)))) (fun hHeld => ?_)
        clear hK K
        refine one_ (i := 8) (N := none) #[true, true, true, true, true, true, true, true, true] rfl rfl (one_of HT_.out (by kernel_rfl)) (by decide) (fun K hK => ?_)
        refine step_arrStore (by rfl) rfl 142 (.tmp 5) (.tmp 13) rfl B5 (row64 []) (row64 KT) rfl rfl (by exact G5.out) (by rw [row_size KT (by decide)]; exact I1.out) (by rw [row_size KT (by decide), row_size [] (by simp)]) (row_one _) (fun w_ hh hg => ?_)
        have g4_ := Aside0.mk (grown_keep (by exact G4.out) hg (Ne.symm (blk_apart G4.out G5.out (by decide))))
        have hb_ := Aside0.mk (grown_below (by exact HB.out) hg M5.out)
        clear HB G4 G5 hg
        have HB := hb_
        have G4 := g4_
        have G5 := Aside0.mk hh
        clear hb_ g4_ hh
        refine hK.out _ _ (dg_cells (CS.out _ (by repeat (first | exact HB.out | apply below_drew | apply below_alloc | apply pw_below_drewN)))) (fun hHeld => ?_)
        clear hK K
        refine done_ (done_of HT_.out (by kernel_rfl)) ?_
        go_wp2
        go_meet
        exact ⟨B4, B5, rfl, rfl, G4, G5, M4, HB⟩
      · skip
        refine step_alloc (by rfl) 4 rfl _ _ (by go_simp; with_reducible rfl) (fun B4 w_ hh4 hle hb => ?_)
        have M4 : Aside0 (w.heap.size ≤ B4) := ⟨Nat.le_trans (by exact HB.out.size) hle⟩
        (try (have g_ := Aside0.mk (blk_below (by exact G4.out) hb); clear G4; have G4 := g_; clear g_))
        (try (have g_ := Aside0.mk (blk_below (by exact G5.out) hb); clear G5; have G5 := g_; clear g_))
        have HBn := Aside0.mk (below_step (by repeat (first | exact HB.out | apply below_drew | apply below_alloc | apply pw_below_drewN)) hb)
        clear HB hb
        have HB := HBn
        clear HBn
        have G4 := Aside0.mk hh4
        clear hh4 hle
        refine hK.out _ _ (dg_cells (CS.out _ (by repeat (first | exact HB.out | apply below_drew | apply below_alloc | apply pw_below_drewN)))) (fun hHeld => ?_)
        clear hK K
        refine norm_ (a' := ?_) ?_ ?_
        rotate_left
        · show Act.put _ (some 4) _ = _
          simp only [Act.put, List.setIfInBounds_toArray, List.set_cons_zero, List.set_cons_succ, i64_w, i32_w]
          rfl
        refine one_ (i := 4) (N := (some 13)) #[true, true, true, true, true, true, true, false, false] rfl rfl (one_of HT_.out (by kernel_rfl)) (by decide) (fun K hK => ?_)
        refine goes_ Try.func102 (by kernel_rfl) rfl #[] (by rfl) rfl rfl (by first | rfl | (simp only [List.map_toArray, List.map_cons, List.map_nil]; try rfl)) ?_
        (with_reducible refine (sh_table _).mono ?_)
        rintro e_ w_ ⟨rfl, hb⟩
        (try (have g_ := Aside0.mk (blk_below (by exact G4.out) hb); clear G4; have G4 := g_; clear g_))
        (try (have g_ := Aside0.mk (blk_below (by exact G5.out) hb); clear G5; have G5 := g_; clear g_))
        have HBn := Aside0.mk (below_step (by repeat (first | exact HB.out | apply below_drew | apply below_alloc | apply pw_below_drewN)) hb)
        clear HB hb
        have HB := HBn
        clear HBn
        refine ⟨_, rfl, ?_⟩
        refine hK.out _ _ (dg_cells (CS.out _ (by repeat (first | exact HB.out | apply below_drew | apply below_alloc | apply pw_below_drewN)))) (fun hHeld => ?_)
        clear hK K
        refine norm_ (a' := ?_) ?_ ?_
        rotate_left
        · show Act.put _ (some 13) _ = _
          simp only [Act.put, List.setIfInBounds_toArray, List.set_cons_zero, List.set_cons_succ, i64_w, i32_w]
          rfl
        refine one_ (i := 7) (N := none) #[true, true, true, true, true, true, true, true, false] rfl rfl (one_of HT_.out (by kernel_rfl)) (by decide) (fun K hK => ?_)
        refine step_arrStore (by rfl) rfl 138 (.tmp 4) (.tmp 12) rfl B4 #[.int .u32 0, .int .u32 0, .int .u32 0, .int .u32 0, .int .u32 0, .int .u32 0, .int .u32 0, .int .u32 0] (w8A ⟨a, b, cc, d, e, f, g, h⟩) rfl rfl (by exact G4.out) I2.out rfl (st_one _ _ _ _ _ _ _ _) (fun w_ hh hg => ?_)
        have g5_ := Aside0.mk (grown_keep (by exact G5.out) hg (blk_apart G4.out G5.out (by decide)))
        have hb_ := Aside0.mk (grown_below (by exact HB.out) hg M4.out)
        clear HB G4 G5 hg
        have HB := hb_
        have G5 := g5_
        have G4 := Aside0.mk hh
        clear hb_ g5_ hh
        refine hK.out _ _ (dg_cells (CS.out _ (by repeat (first | exact HB.out | apply below_drew | apply below_alloc | apply pw_below_drewN)))) (fun hHeld => ?_)
        clear hK K
        refine one_ (i := 8) (N := none) #[true, true, true, true, true, true, true, true, true] rfl rfl (one_of HT_.out (by kernel_rfl)) (by decide) (fun K hK => ?_)
        refine step_arrStore (by rfl) rfl 142 (.tmp 5) (.tmp 13) rfl B5 (row64 []) (row64 KT) rfl rfl (by exact G5.out) (by rw [row_size KT (by decide)]; exact I1.out) (by rw [row_size KT (by decide), row_size [] (by simp)]) (row_one _) (fun w_ hh hg => ?_)
        have g4_ := Aside0.mk (grown_keep (by exact G4.out) hg (Ne.symm (blk_apart G4.out G5.out (by decide))))
        have hb_ := Aside0.mk (grown_below (by exact HB.out) hg M5.out)
        clear HB G4 G5 hg
        have HB := hb_
        have G4 := g4_
        have G5 := Aside0.mk hh
        clear hb_ g4_ hh
        refine hK.out _ _ (dg_cells (CS.out _ (by repeat (first | exact HB.out | apply below_drew | apply below_alloc | apply pw_below_drewN)))) (fun hHeld => ?_)
        clear hK K
        refine done_ (done_of HT_.out (by kernel_rfl)) ?_
        go_wp2
        go_meet
        exact ⟨B4, B5, rfl, rfl, G4, G5, M4, HB⟩
  case rest =>
    clear g10
    obtain ⟨B4, B5, rfl, rfl, G4, G5, M4, HB⟩ := hcut
    have hPB : IsB (padL left ++ bytesBE 8 (8 * n)) := IsB.append (padL_b HX.out) (bytesBE_b _ _)
    have hPL : (padL left ++ bytesBE 8 (8 * n)).length % 64 = 0 ∧ (padL left ++ bytesBE 8 (8 * n)).length ≤ 200 := by
      rw [List.length_append, padL_len, bytesBE_len]
      have h1 := (padK_at left.length).1
      have h2 := padK_lt left.length
      have h3 := HLL.out
      omega
    obtain ⟨PP, hPP⟩ : ∃ PP, padL left ++ bytesBE 8 (8 * n) = PP := ⟨_, rfl⟩
    rw [hPP] at hPB hPL
    have HPP := Aside0.mk hPP
    have HPB := Aside0.mk hPB
    have HPL := Aside0.mk hPL
    clear hPB hPL hPP
    go_wp2_with (go_at_call 104; (with_reducible refine (sh_filled D base v _ left n _ (CS.out _ HB.out) HLL.out HN.out).mono ?_); rintro ee w5 ⟨v5, rfl, hR, hb⟩; rw [HPP.out] at hR; have G4n := Aside0.mk (blk_below G4.out hb); have G5n := Aside0.mk (blk_below G5.out hb); have HBn := Aside0.mk (below_step HB.out hb); have HR := Aside0.mk (Kd.R_lower hR HB.out.size); clear G4 G5 HB hR hb; have G4 := G4n; have G5 := G5n; have HB := HBn; clear G4n G5n HBn)
    obtain ⟨A5, c5, rfl, hlc5, _⟩ := Kd.R_reads HR.out
    have hA : ∀ W', KeepBut w5 W' B4 none → Kd.C (Kd.int .u8) W' A5 PP.length PP := fun W' hk => by
      have q := Kd.R_keep (Kd.R_types HR.out G4.out (by decide)) hk (fun k hk => hk.2)
      obtain ⟨A6, c6, he, _, hC⟩ := Kd.R_reads q
      injection he with he _ _
      subst he
      exact hC
    obtain ⟨L, hL⟩ : ∃ L, PP.length = L := ⟨_, rfl⟩
    rw [hL] at hA hlc5
    rw [hL]
    have HL : Aside0 (PP.length = L ∧ L % 64 = 0 ∧ L ≤ 200) := ⟨⟨hL, by have := HPL.out; omega, by have := HPL.out; omega⟩⟩
    have HA := Aside0.mk hA
    have HLC := Aside0.mk hlc5
    clear hA hlc5 hL HPL HR
    have hne : B5 ≠ B4 := blk_apart G5.out G4.out (by decide)
    have HNE := Aside0.mk hne
    clear hne
    go_loopw [6] (fun v6 wr => ∃ (i : Nat) (A' : Option Addr) (c' : Nat), 64 * i ≤ L ∧ v6 = .slice A' (L - 64 * i) c' ∧ L - 64 * i ≤ c' ∧ Aside0 (∀ W', KeepBut w5 W' B4 none → Kd.C (Kd.int .u8) W' A' (L - 64 * i) (PP.drop (64 * i))) ∧ Aside0 (wr.heap[B4]? = some (.cells (w8A (foldN i PP ⟨a, b, cc, d, e, f, g, h⟩)) 138 (0, 0))) ∧ Aside0 (wr.heap[B5]? = some (.cells (row64 KT) 142 (0, 0))) ∧ Aside0 (KeepBut w5 wr B4 none) ∧ Aside0 (Below w.heap.size w wr)) (fun v6 _ => match v6 with | .slice _ len _ => len | _ => 0)
    case atStart => exact ⟨0, A5, c5, by omega, rfl, HLC.out, ⟨fun W' hk => HA.out W' hk⟩, G4, G5, ⟨KeepBut.refl _ _ _⟩, HB⟩
    case round =>
      clear G4 G5 HB
      obtain ⟨i, A', c', him, rfl, hqc, KC, K4, K5, KK, KB⟩ := hrel
      obtain ⟨q, hq⟩ : ∃ q, L - 64 * i = q := ⟨_, rfl⟩
      rw [hq] at KC hqc
      rw [hq]
      by_cases hlt0 : 0 < q
      · have hlt : 64 ≤ q := by have := HL.out; omega
        obtain ⟨ad, rfl, hc⟩ := (Kd.reads_of_C (enc := Value.int .u8) (d := (0 : Int)) (h1 := fun _ => rfl) (KC.out wr KK.out)).2.2 (by omega)
        obtain ⟨ys, hys⟩ : ∃ ys, (PP.drop (64 * i)).take 64 = ys := ⟨_, rfl⟩
        have hyl : ys.length = 64 := by have := (KC.out wr KK.out).1; rw [← hys, List.length_take]; omega
        have hyb : IsB ys := by rw [← hys]; exact (HPB.out.drop _).take _
        have hyc : ∀ j, j < 64 → wr.cell? (ad.add j) = some (.int .u8 (ys.getD j 0)) := fun j hj => by
          have := hc j (by omega)
          rw [this, ← hys]
          simp [List.getD_eq_getElem?_getD, List.getElem?_take, hj]
        have CB : Aside0 (∀ j, j < 64 → ∀ W, Below wr.heap.size wr W → W.cell? (ad.add j) = some (.int .u8 (ys.getD j 0))) := ⟨fun j hj W hb => fl_low (hyc j hj) hb⟩
        have CK : Aside0 (∀ j, j < 64 → ∀ W, Below wr.heap.size wr W → W.cell? ((⟨B5, 0, none⟩ : Addr).add j) = some (.int .u32 ((KT.getD j 0).toNat : Int))) := ⟨fun j hj W hb => by rw [Addr.add_mid, Nat.zero_add]; exact fl_low (row_at K5.out (by simpa [KT] using hj)) hb⟩
        have HYL := Aside0.mk hyl
        have HYB := Aside0.mk hyb
        have hfold : foldN (i + 1) PP ⟨a, b, cc, d, e, f, g, h⟩ = mixF KT ys (foldN i PP ⟨a, b, cc, d, e, f, g, h⟩) := by rw [foldN_succ, hys]
        obtain ⟨s0, hs0⟩ : ∃ s0, foldN i PP ⟨a, b, cc, d, e, f, g, h⟩ = s0 := ⟨_, rfl⟩
        rw [hs0] at hfold K4
        have HF := Aside0.mk hfold
        obtain ⟨a0, b0, c0, d0, e0, f0, g0, h0⟩ := s0
        obtain ⟨A2, hcut, hC2⟩ := dg_slice (some ad) c' q hlt hqc
        have HCUT := Aside0.mk hcut
        have HC2 := Aside0.mk hC2
        have HQ := Aside0.mk hq
        have har := fun W : World => arr_at8 W ad q c' hlt
        obtain ⟨q0, q1, q2, q3, q4, q5, q6, q7⟩ := st_cells K4.out
        clear hcut hC2 hc hys hyl hyb hyc hfold hs0 hq
        go_wp2
        go_region_with (go_at_call 103; (with_reducible refine (sh_mix a0 b0 c0 d0 e0 f0 g0 h0 ⟨B5, 0, none⟩ ad KT ys _ HYB.out HYL.out (fun j hj => CB.out j hj _ (by repeat (first | exact Below.refl _ _ | apply below_drew | apply pw_below_drewN))) (fun j hj => CK.out j hj _ (by repeat (first | exact Below.refl _ _ | apply below_drew | apply pw_below_drewN)))).mono ?_); rintro ee w6 ⟨rfl, hb⟩; have HB6 : Aside0 (Below wr.heap.size wr w6) := ⟨Below.trans (by repeat (first | exact Below.refl wr.heap.size wr | apply below_drew | apply pw_below_drewN)) hb⟩; have k4 := blk_below K4.out HB6.out; have K4n := Aside0.mk k4; clear hb q0 q1 q2 q3 q4 q5 q6 q7; obtain ⟨q0, q1, q2, q3, q4, q5, q6, q7⟩ := st_cells k4; have f0_ := frozen_of_row _ _ 0 _ _ k4; have f1_ := frozen_of_row _ _ 1 _ _ k4; have f2_ := frozen_of_row _ _ 2 _ _ k4; have f3_ := frozen_of_row _ _ 3 _ _ k4; have f4_ := frozen_of_row _ _ 4 _ _ k4; have f5_ := frozen_of_row _ _ 5 _ _ k4; have f6_ := frozen_of_row _ _ 6 _ _ k4; have f7_ := frozen_of_row _ _ 7 _ _ k4; have hf := HF.out; obtain ⟨s1, hs1⟩ : ∃ s1, mixF KT ys ⟨a0, b0, c0, d0, e0, f0, g0, h0⟩ = s1 := ⟨_, rfl⟩; rw [hs1] at hf; rw [hs1]; have HF1 := Aside0.mk hf; clear hf hs1 k4; obtain ⟨a1, b1, c1, d1, e1, f1, g1, h1⟩ := s1; unfold w8A)
        all_goals
          go_wp2_with ((with_reducible refine gate_dst (N := 20) rfl ?_); refine x_slice rfl 36 5 Try.underlying36 (.tmp 19) (some (.const (.int .i64 64))) none none rfl _ _ _ _ rfl rfl rfl rfl (.slice A2 (q - 64) (c' - 64)) HCUT.out ?_; simp only [Act.put, List.setIfInBounds_toArray, List.set_cons_zero, List.set_cons_succ])
          have hk6 := dg_keep_below KK.out HB6.out
          have hb6 := below_step KB.out HB6.out
          have hT6 := blk_below K5.out HB6.out
          have hne := HNE.out
          go_roundw
          case rel =>
            refine ⟨i + 1, A2, c' - 64, by have := HQ.out; omega, by rw [show L - 64 * (i + 1) = q - 64 by have := HQ.out; omega], by have := HQ.out; omega, ⟨fun W' hk => ?_⟩, ⟨by rw [HF1.out]; exact st_set8 K4n.out _ _ _ _ _ _ _ _⟩, ⟨by repeat (first | (with_reducible exact hT6) | (with_reducible refine dg_tset ?_ hne _ _))⟩, ⟨by repeat (first | (with_reducible exact hk6) | (with_reducible refine dg_keep_set ?_))⟩, ⟨by repeat (first | (with_reducible exact hb6) | (with_reducible refine dg_bset ?_ M4.out _ _))⟩⟩
            have q2' := HC2.out W' _ (KC.out W' hk)
            rw [List.drop_drop, show 64 * i + 64 = 64 * (i + 1) by omega] at q2'
            rw [show L - 64 * (i + 1) = q - 64 by have := HQ.out; omega]
            exact q2'
          case measure => simp; omega
      · have hi : i = L / 64 := by have := HL.out; omega
        obtain ⟨s1, hs1⟩ : ∃ s1, foldN i PP ⟨a, b, cc, d, e, f, g, h⟩ = s1 := ⟨_, rfl⟩
        rw [hs1] at K4
        have hfin : foldN (PP.length / 64) PP ⟨a, b, cc, d, e, f, g, h⟩ = s1 := by rw [HL.out.1, ← hi]; exact hs1
        have HFIN := Aside0.mk hfin
        clear hi hs1 hfin
        go_wp2_with (go_at_call 82; (with_reducible refine (sh_put8 B4 s1 _ K4.out).mono ?_); rintro ee w8 ⟨v8, rfl, hR, hb⟩; have HR8 := Aside0.mk hR; have HB8 := Aside0.mk hb; clear hR hb)
        go_ret2
        exact ⟨v8, rfl, by rw [HPP.out, HFIN.out]; exact Kd.R_lower HR8.out KB.out.size, below_step KB.out HB8.out⟩
end Go.Proofs.Ytaoiamifofkklaa.Obj
