/- Contracts of Go functions that the claims of this seat share. -/
import Derived.Test.YtbkchjiiaehhpaaProg
import Derived.Below
import Derived.Deep.Draws
import Derived.Deep.AppendLies
import Derived.Maps.AppendAt
import Derived.OwnWalk
import Derived.Laws.BytesArg
import Derived.Laws.MakeOwn
import Derived.Laws.OwnMore
import Derived.Deep.OwnRows
import Derived.Tactics
import Derived.Lib.ConvBytes
import Derived.Laws.Slices
import Derived.WalkKit
import Derived.KernelRfl
import Derived.RowKit3
import Derived.Deep.LoopGhost
import Derived.Deep.QuietTactic
import Derived.BigQuiet
import Derived.WideLaws
import Derived.Deep.DeepCutAuto
import Derived.Deep.CutBlock
import Derived.Deep.RegionHeld3
import Derived.Laws.Rows
import Derived.Lib.AppendStr
import Derived.ArgAppend
import Derived.Laws.IdiomCopy
import Derived.OrdersHeld
import Derived.Laws.BitsLemmas
import Derived.RowKit
import Derived.Test.YtbkchjiiaehhpaaWWords
import Derived.Test.YtbkchjiiaehhpaaWLast
import Derived.Test.YtbkchjiiaehhpaaWTab
import Derived.Test.YtbkchjiiaehhpaaWFour
import Derived.Test.YtbkchjiiaehhpaaWQPut
import Derived.Test.YtbkchjiiaehhpaaWApart
import Derived.Test.YtbkchjiiaehhpaaWArr
import Derived.Test.YtbkchjiiaehhpaaWZeros
import Derived.Test.YtbkchjiiaehhpaaWFoot
import Derived.Test.YtbkchjiiaehhpaaWKept
import Derived.Test.YtbkchjiiaehhpaaWShare
import Derived.Test.YtbkchjiiaehhpaaWN
import Derived.Test.YtbkchjiiaehhpaaWFootNe
import Derived.Test.YtbkchjiiaehhpaaWAt
import Derived.Test.YtbkchjiiaehhpaaWEqStruct
import Derived.Test.YtbkchjiiaehhpaaWRepsOne
import Derived.Test.YtbkchjiiaehhpaaWInv
import Derived.Test.YtbkchjiiaehhpaaWInvWords
import Derived.Test.YtbkchjiiaehhpaaWGuard
import Derived.Test.YtbkchjiiaehhpaaWNEv
import Derived.Test.YtbkchjiiaehhpaaWMore
import Derived.Test.YtbkchjiiaehhpaaX0Mem
import Derived.Test.YtbkchjiiaehhpaaX1Pure
import Derived.Test.YtbkchjiiaehhpaaXShaL
import Derived.Deep.DeepCutAuto
namespace Go.Proofs.Ytbkchjiiaehhpaa.Obj
open Go.RowKit Go.Proofs.YtbkchjiiaehhpaaW.PrintWords Go.Proofs.YtbkchjiiaehhpaaW.PrintLast Go.Proofs.YtbkchjiiaehhpaaW.PrintMore
set_option linter.unusedVariables false
set_option linter.unusedSimpArgs false
def wz.T9 : Bool × List (List Nat × List Nat) := (true, [([], []), ([], []), ([1], [1]), ([2], [2]), ([3], [3]), ([], []), ([5], [5]), ([6], [6]), ([7], [7]), ([8], [8]), ([], []), ([10], [10]), ([11], [11]), ([12], [12]), ([13], [13]), ([4, 9, 14], [4, 9, 14]), ([], []), ([], []), ([16, 17], [16, 17]), ([15, 18], [15, 18]), ([0, 0, 1, 2, 3, 4, 5, 6, 7, 8, 9, 10, 11, 12, 13, 14, 15, 16, 17, 18, 19], [0]), ([20, 0, 1, 2, 3, 4, 5, 6, 7, 8, 9, 10, 11, 12, 13, 14, 15, 16, 17, 18, 19], [20]), ([21, 19, 19, 0, 1, 2, 3, 4, 5, 6, 7, 8, 9, 10, 11, 12, 13, 14, 15, 16, 17, 18, 19], [19, 21])])
def wz.B9 : List Nat := [0, 0, 2, 6, 14, 0, 32, 96, 224, 480, 0, 1024, 3072, 7168, 15360, 32766, 0, 0, 196608, 524286, 1048575, 2097151, 4194303]
theorem wz.tab9 : rtab .any (opsOf Try.f19 9) = wz.T9 := by kernel_rfl
theorem wz.bits9 : waitsOk wz.T9.2 wz.B9 = true := by kernel_rfl
open Go.Proofs.Ytbkchjiiaehhpaa.PShaH
/-- an append of nothing, as one step of a region that draws -/
theorem step_nothing {P : Program} {ops : Array Oper} {o : Oper} {a : Act} {Q : Exit → Act → World → Prop} {Kc : Act → World → Prop} {W : World} (hw : Region.wanted o (yielded ops a.tmps) = true) (N : Tmp) (hN : o.dst = some N) (s x : Operand) (t e : TypeId) (bytes : Nat)
    (ho : o.op = .call { callee := .builtin .append, args := #[s, x], argTypes := #[t, t] })
    (ht : P.underlying t = some (.slice e)) (hinfo : (P.info? e).map (fun i => (i.zero, i.size, i.bytes)) = some (some (.int .u8 0), 1, bytes))
    (A : Option Addr) (n : Nat) (B : Option Addr) (m c : Nat) (hs : a.eval s = .slice A n n) (hx : a.eval x = .slice B m c) (hm : m = 0)
    (h : Kc (a.put (some N) (.slice A n n)) W) :
    if Region.wanted o (yielded ops a.tmps) = true then Oper.wp P o a W Kc Q else Kc (a.put (some N) undef) W := by
  subst hm
  obtain ⟨i, hi, hz, hsz, hby⟩ := info_parts hinfo
  have hr : (Builtin.append_ #[t, t] o.type #[.slice A n n, .slice B 0 c]).run P W = .ok (.slice A n n) W := by
    cases A <;> cases B <;> simp [Builtin.append_, run_underlying ht, sizeOf, typeInfo, hi, Builtin.lenOf, Builtin.firstCells, loadCells, loadCellsFrom, storeCells]
  rw [if_pos hw]
  unfold Oper.wp execOp
  simp only [ho, resolve, invoke, builtin, Sem.run_bind, Sem.run_pure, Result.andThen_ok, List.map_toArray, List.map_cons, List.map_nil, hs, hx, hr]
  show Kc (a.put o.dst _) _
  rw [hN]
  exact h
theorem Rc.clip {w : World} {base z c : Nat} {A : Option Addr} {xs : List Int} (h : Rc w base (.slice A z c) xs) (hz : xs.length = z) : Rc w base (.slice A z z) xs := by
  obtain ⟨A', c1, c', he, hl, h⟩ := h
  injection he with e1 _ _
  subst e1
  subst hz
  exact ⟨A, xs.length, c', rfl, Nat.le_refl _, h⟩
set_option maxHeartbeats 8000000 in
set_option maxRecDepth 100000 in
theorem sh_writeZ (D base : Nat) (v : Value) (s : W8) (left : List Int) (n z m k c : Nat) (A : Option Addr) (xs : List Int) (w : World) (h : Dg w base D v s left n) (hz : left.length = z) (hz0 : 0 < z) (hz1 : z < 64) (hA : ∀ W', KeepBut w W' D none → Kd.C (Kd.int .u8) W' A m xs) (hx : IsB xs) (hxl : IsB left) (hmc : m ≤ c) (hm0 : m = 0) (hkm : z + m < 64) (hn : n + m ≤ 1048576) :
    Calls Try.prog 19 #[.pointer (some ⟨D, 0, none⟩), .slice A m c] w fun e w' => ∃ v', e = .returned (.int .i64 0) ∧ Dg w' base D v' s (left ++ xs) (n + m) ∧ KeepBut w w' D none ∧ Below base w w' ∧ (∀ j, v'.ownBlock = some j → v.ownBlock = some j) := by
  have hu := Try.underlying103
  have g10 := (blk_cell h.2.1 10).trans rfl
  have g9 := (blk_cell h.2.1 9).trans rfl
  have f9 := blk_frozen h.2.1 9
  obtain ⟨AL, cL, rfl, hlc, _⟩ := h.2.2.reads
  rw [hz] at h hlc
  have HXN : Aside0 (xs = []) := ⟨List.eq_nil_of_length_eq_zero (by have q_ := (hA w (KeepBut.refl w D none)).1; omega)⟩
  have H := Aside0.mk h
  have HA := Aside0.mk hA
  have HX := Aside0.mk hx
  have HM := Aside0.mk hmc
  have HNN := Aside0.mk hn
  have HD := Aside0.mk h.1
  have HBS := Aside0.mk (Nat.le_trans h.1 (Nat.le_of_lt (blk_lt h.2.1)))
  have HZ := Aside0.mk (And.intro hz (And.intro hz0 hz1))
  have HLC := Aside0.mk hlc
  have HKM := Aside0.mk (And.intro hm0 hkm)
  have I1 : Aside0 ((Try.prog.info? 38).map (·.size) = some 64) := ⟨by kernel_rfl⟩
  have hnm : ¬ (1048576 - (n : Int) < (m : Int)) := by omega
  have j0 : (0 : Int) < (z : Int) := by omega
  have j1 : (m : Int) ≤ 64 - (z : Int) := by omega
  have j2 : (z : Int) ≤ (cL : Int) := by omega
  have j3 : (m : Int) ≤ (c : Int) := by omega
  clear h hA hx hmc hz hz0 hz1 hkm hm0 hlc
  go_enter Try.func19, Try.ntmps19
  go_upto_region 9 with (first
    | (go_at_call 58; (with_reducible refine (sh_none D _ g10).mono ?_); rintro e w ⟨rfl, rfl⟩)
    | (go_at_call 59; (with_reducible refine (sh_table _).mono ?_); rintro e w1 ⟨rfl, hb⟩; have hd1 := H.out.set9 (n + m); rw [Int.natCast_add] at hd1; have HD1 := Aside0.mk (hd1.below hb); have HK1 := Aside0.mk (dg_keep_below (dg_keep_set (KeepBut.refl w D none)) hb); have HB1 := Aside0.mk (dg_below ((Below.refl base w).setCell (p := ⟨D, 9, none⟩) HD.out _) HBS.out hb); have r8 := (dg_cell HD1.out 8).trans rfl; obtain ⟨R, hR⟩ : ∃ R, row64 KT = R := ⟨_, rfl⟩; have HR := Aside0.mk hR; have HS := Aside0.mk (show R.size = 64 by rw [← hR, row_size KT (by decide)]); have HO := Aside0.mk (show R.all (·.oneCell') = true by rw [← hR]; exact row_one _); rw [hR]; clear hR hd1 hb g10 g9 f9 hnm)
    | ((with_reducible refine gate_store (t := 38) (p := 5) (v := .tmp 28) rfl ?_); refine x_arrStore rfl 38 (.tmp 5) (.tmp 28) rfl w1.heap.size (row64 []) R rfl rfl (heap_alloc_new _ _) (by rw [HS.out]; exact I1.out) (by rw [HS.out, row_size [] (by simp)]) HO.out ?_; intro W2 hh2 hg2; have GH := Aside0.mk hh2; have HB2 := Aside0.mk (arr_below hg2); clear hh2 hg2; have HD2 := Aside0.mk (HD1.out.below HB2.out); clear r8; have r8 := (dg_cell HD2.out 8).trans rfl))
  obtain ⟨TB, hTB⟩ : ∃ B, w1.heap.size = B := ⟨_, rfl⟩
  have HTB : Aside0 (W2.heap[TB]? = some (.cells (row64 KT) 38 (0, 0))) := ⟨by have g := GH.out; rw [← HR.out, hTB] at g; exact g⟩
  have HK2 := Aside0.mk (dg_keep_below HK1.out HB2.out)
  have HB3 := Aside0.mk (dg_below HB1.out HBS.out HB2.out)
  rw [hTB]
  clear HB1 HK1 HD1 HB2 GH HR HS HO hTB r8
  have CD : Aside0 (∀ W, Below W2.heap.size W2 W → Dg W base D (.slice AL z cL) s left (n + m)) := ⟨fun W hb => HD2.out.below hb⟩
  have CL : Aside0 (∀ W, Below W2.heap.size W2 W → Kd.C (Kd.int .u8) W AL z left) := ⟨fun W hb => by
    obtain ⟨A', c', he, _, hC⟩ := (HD2.out.below hb).2.2.reads
    rw [HZ.out.1] at he hC
    injection he with he _ _
    subst he
    exact hC⟩
  have CA : Aside0 (∀ W, Below W2.heap.size W2 W → Kd.C (Kd.int .u8) W A m xs) := ⟨fun W hb => HA.out W (dg_keep_below HK2.out hb)⟩
  have HBW := Aside0.mk (Below.refl W2.heap.size W2)
  have hd2 := CD.out _ HBW.out
  have q8 := (dg_cell hd2 8).trans rfl
  have q8d : W2.drew.cell? ⟨D, 8, none⟩ = some (.slice AL z cL) := q8
  clear hd2
  go_cut [63] (fun s63 wx => ∃ A6 c6, s63 = .slice A6 (z + m) c6 ∧ Aside0 (Dg wx base D (.slice A6 (z + m) c6) s (left ++ xs) (n + m)) ∧ Aside0 (KeepBut w wx D none) ∧ Aside0 (Below base w wx) ∧ Aside0 (∀ j, (Value.slice A6 (z + m) c6).ownBlock = some j → (Value.slice AL z cL).ownBlock = some j))
  case first =>
    refine start_ (n := 23) (S := fun w' => True) (ds := []) #[false, false, false, false, false, false, false, false, false, false, false, false, false, false, false, false, false, false, false, false, false, false, false] (by kernel_rfl) rfl rfl trivial (fun hHeld => ?_); refine with_tabW wz.tab9 wz.bits9 (fun HT_ HW_ => ?_)
    refine take_ (i := 0) (N := (some 44)) (v := ?_) (a' := ?_) #[true, false, false, false, false, false, false, false, false, false, false, false, false, false, false, false, false, false, false, false, false, false, false] rfl rfl (take_ofW HT_.out HW_.out (by kernel_rfl)) (fun _ _ _ h => h) (Or.inl ⟨by rfl, ?_⟩) hHeld ?_ ?_
    rotate_left
    · rintro w' _
      go_simp
      with_reducible rfl
    rotate_left
    · simp only [Act.put, List.setIfInBounds_toArray, List.set_cons_zero, List.set_cons_succ, i64_w, i32_w]
      rfl
    refine take_ (i := 1) (N := (some 45)) (v := ?_) (a' := ?_) #[true, true, false, false, false, false, false, false, false, false, false, false, false, false, false, false, false, false, false, false, false, false, false] rfl rfl (take_ofW HT_.out HW_.out (by kernel_rfl)) (fun _ _ _ h => h) (Or.inl ⟨by rfl, ?_⟩) hHeld ?_ ?_
    rotate_left
    · rintro w' _
      go_simp
      with_reducible rfl
    rotate_left
    · simp only [Act.put, List.setIfInBounds_toArray, List.set_cons_zero, List.set_cons_succ, i64_w, i32_w]
      rfl
    refine take_ (i := 2) (N := (some 46)) (v := ?_) (a' := ?_) #[true, true, true, false, false, false, false, false, false, false, false, false, false, false, false, false, false, false, false, false, false, false, false] rfl rfl (take_ofW HT_.out HW_.out (by kernel_rfl)) (fun _ _ _ h => h) (Or.inl ⟨by rfl, ?_⟩) hHeld ?_ ?_
    rotate_left
    · rintro w' _
      go_simp
      with_reducible rfl
    rotate_left
    · simp only [Act.put, List.setIfInBounds_toArray, List.set_cons_zero, List.set_cons_succ, i64_w, i32_w]
      rfl
    refine take_ (i := 3) (N := (some 47)) (v := ?_) (a' := ?_) #[true, true, true, true, false, false, false, false, false, false, false, false, false, false, false, false, false, false, false, false, false, false, false] rfl rfl (take_ofW HT_.out HW_.out (by kernel_rfl)) (fun _ _ _ h => h) (Or.inl ⟨by rfl, ?_⟩) hHeld ?_ ?_
    rotate_left
    · rintro w' _
      go_simp
      with_reducible rfl
    rotate_left
    · simp only [Act.put, List.setIfInBounds_toArray, List.set_cons_zero, List.set_cons_succ, i64_w, i32_w]
      rfl
    refine take_ (i := 5) (N := (some 49)) (v := ?_) (a' := ?_) #[true, true, true, true, false, true, false, false, false, false, false, false, false, false, false, false, false, false, false, false, false, false, false] rfl rfl (take_ofW HT_.out HW_.out (by kernel_rfl)) (fun _ _ _ h => h) (Or.inl ⟨by rfl, ?_⟩) hHeld ?_ ?_
    rotate_left
    · rintro w' _
      go_simp
      with_reducible rfl
    rotate_left
    · simp only [Act.put, List.setIfInBounds_toArray, List.set_cons_zero, List.set_cons_succ, i64_w, i32_w]
      rfl
    refine take_ (i := 6) (N := (some 50)) (v := ?_) (a' := ?_) #[true, true, true, true, false, true, true, false, false, false, false, false, false, false, false, false, false, false, false, false, false, false, false] rfl rfl (take_ofW HT_.out HW_.out (by kernel_rfl)) (fun _ _ _ h => h) (Or.inl ⟨by rfl, ?_⟩) hHeld ?_ ?_
    rotate_left
    · rintro w' _
      go_simp
      with_reducible rfl
    rotate_left
    · simp only [Act.put, List.setIfInBounds_toArray, List.set_cons_zero, List.set_cons_succ, i64_w, i32_w]
      rfl
    refine take_ (i := 7) (N := (some 51)) (v := ?_) (a' := ?_) #[true, true, true, true, false, true, true, true, false, false, false, false, false, false, false, false, false, false, false, false, false, false, false] rfl rfl (take_ofW HT_.out HW_.out (by kernel_rfl)) (fun _ _ _ h => h) (Or.inl ⟨by rfl, ?_⟩) hHeld ?_ ?_
    rotate_left
    · rintro w' _
      go_simp
      with_reducible rfl
    rotate_left
    · simp only [Act.put, List.setIfInBounds_toArray, List.set_cons_zero, List.set_cons_succ, i64_w, i32_w]
      rfl
    refine take_ (i := 10) (N := (some 54)) (v := ?_) (a' := ?_) #[true, true, true, true, false, true, true, true, false, false, true, false, false, false, false, false, false, false, false, false, false, false, false] rfl rfl (take_ofW HT_.out HW_.out (by kernel_rfl)) (fun _ _ _ h => h) (Or.inl ⟨by rfl, ?_⟩) hHeld ?_ ?_
    rotate_left
    · rintro w' _
      go_simp
      with_reducible rfl
    rotate_left
    · simp only [Act.put, List.setIfInBounds_toArray, List.set_cons_zero, List.set_cons_succ, i64_w, i32_w]
      rfl
    refine take_ (i := 11) (N := (some 55)) (v := ?_) (a' := ?_) #[true, true, true, true, false, true, true, true, false, false, true, true, false, false, false, false, false, false, false, false, false, false, false] rfl rfl (take_ofW HT_.out HW_.out (by kernel_rfl)) (fun _ _ _ h => h) (Or.inl ⟨by rfl, ?_⟩) hHeld ?_ ?_
    rotate_left
    · rintro w' _
      go_simp
      with_reducible rfl
    rotate_left
    · simp only [Act.put, List.setIfInBounds_toArray, List.set_cons_zero, List.set_cons_succ, i64_w, i32_w]
      rfl
    refine take_ (i := 12) (N := (some 56)) (v := ?_) (a' := ?_) #[true, true, true, true, false, true, true, true, false, false, true, true, true, false, false, false, false, false, false, false, false, false, false] rfl rfl (take_ofW HT_.out HW_.out (by kernel_rfl)) (fun _ _ _ h => h) (Or.inl ⟨by rfl, ?_⟩) hHeld ?_ ?_
    rotate_left
    · rintro w' _
      go_simp
      with_reducible rfl
    rotate_left
    · simp only [Act.put, List.setIfInBounds_toArray, List.set_cons_zero, List.set_cons_succ, i64_w, i32_w]
      rfl
    refine take_ (i := 16) (N := (some 60)) (v := ?_) (a' := ?_) #[true, true, true, true, false, true, true, true, false, false, true, true, true, false, false, false, true, false, false, false, false, false, false] rfl rfl (take_ofW HT_.out HW_.out (by kernel_rfl)) (fun _ _ _ h => h) (Or.inl ⟨by rfl, ?_⟩) hHeld ?_ ?_
    rotate_left
    · rintro w' _
      go_simp
      with_reducible rfl
    rotate_left
    · simp only [Act.put, List.setIfInBounds_toArray, List.set_cons_zero, List.set_cons_succ, i64_w, i32_w]
      rfl
    refine take_ (i := 17) (N := (some 61)) (v := ?_) (a' := ?_) #[true, true, true, true, false, true, true, true, false, false, true, true, true, false, false, false, true, true, false, false, false, false, false] rfl rfl (take_ofW HT_.out HW_.out (by kernel_rfl)) (fun _ _ _ h => h) (Or.inl ⟨by rfl, ?_⟩) hHeld ?_ ?_
    rotate_left
    · rintro w' _
      go_simp
      with_reducible rfl
    rotate_left
    · simp only [Act.put, List.setIfInBounds_toArray, List.set_cons_zero, List.set_cons_succ, i64_w, i32_w]
      rfl
    refine take_ (i := 18) (N := (some 62)) (v := ?_) (a' := ?_) #[true, true, true, true, false, true, true, true, false, false, true, true, true, false, false, false, true, true, true, false, false, false, false] rfl rfl (take_ofW HT_.out HW_.out (by kernel_rfl)) (fun _ _ _ h => h) (Or.inl ⟨by rfl, ?_⟩) hHeld ?_ ?_
    rotate_left
    · rintro w' _
      go_simp
      with_reducible rfl
    rotate_left
    · simp only [Act.put, List.setIfInBounds_toArray, List.set_cons_zero, List.set_cons_succ, i64_w, i32_w]
      rfl
    refine three_ (i := 4) (j := 8) (k := 13) (Ni := (some 48)) (Nj := (some 52)) (Nk := (some 57)) #[true, true, true, true, true, true, true, true, false, false, true, true, true, false, false, false, true, true, true, false, false, false, false] #[true, true, true, true, false, true, true, true, true, false, true, true, true, false, false, false, true, true, true, false, false, false, false] #[true, true, true, true, false, true, true, true, false, false, true, true, true, true, false, false, true, true, true, false, false, false, false] rfl rfl rfl rfl rfl rfl (three_of HT_.out (by kernel_rfl)) (by decide) (by decide) (by decide) (fun K hK => ?_)  (fun K hK => ?_)  (fun K hK => ?_)
    · skip
      refine value_ (by rfl) rfl (v := ?_) (w1 := ?_) ?_ ?_
      rotate_left 2
      · (go_simp; first | (with_reducible rfl) | (constructor <;> with_reducible rfl))
      refine hK.out _ _ trivial (fun hHeld => ?_)
      clear hK K
      refine norm_ (a' := ?_) ?_ ?_
      rotate_left
      · show Act.put _ (some 48) _ = _
        simp only [Act.put, List.setIfInBounds_toArray, List.set_cons_zero, List.set_cons_succ, i64_w, i32_w]
        rfl
      refine two_ (i := 8) (j := 13) (Ni := (some 52)) (Nj := (some 57)) #[true, true, true, true, true, true, true, true, true, false, true, true, true, false, false, false, true, true, true, false, false, false, false] #[true, true, true, true, true, true, true, true, false, false, true, true, true, true, false, false, true, true, true, false, false, false, false] rfl rfl rfl rfl (two_of HT_.out (by kernel_rfl)) (by decide) (by decide) (fun K hK => ?_)  (fun K hK => ?_)
      · skip
        refine value_ (by rfl) rfl (v := ?_) (w1 := ?_) ?_ ?_
        rotate_left 2
        · (go_simp; first | (with_reducible rfl) | (constructor <;> with_reducible rfl))
        refine hK.out _ _ trivial (fun hHeld => ?_)
        clear hK K
        refine norm_ (a' := ?_) ?_ ?_
        rotate_left
        · show Act.put _ (some 52) _ = _
          simp only [Act.put, List.setIfInBounds_toArray, List.set_cons_zero, List.set_cons_succ, i64_w, i32_w]
          rfl
        refine take_ (i := 9) (N := (some 53)) (v := ?_) (a' := ?_) #[true, true, true, true, true, true, true, true, true, true, true, true, true, false, false, false, true, true, true, false, false, false, false] rfl rfl (take_ofW HT_.out HW_.out (by kernel_rfl)) (fun _ _ _ h => h) (Or.inl ⟨by rfl, ?_⟩) hHeld ?_ ?_
        rotate_left
        · rintro w' _
          go_simp
          with_reducible rfl
        rotate_left
        · simp only [Act.put, List.setIfInBounds_toArray, List.set_cons_zero, List.set_cons_succ, i64_w, i32_w]
          rfl
        refine one_ (i := 13) (N := (some 57)) #[true, true, true, true, true, true, true, true, true, true, true, true, true, true, false, false, true, true, true, false, false, false, false] rfl rfl (one_of HT_.out (by kernel_rfl)) (by decide) (fun K hK => ?_)
        refine value_ (by rfl) rfl (v := ?_) (w1 := ?_) ?_ ?_
        rotate_left 2
        · (go_simp; first | (with_reducible rfl) | (constructor <;> with_reducible rfl))
        refine hK.out _ _ trivial (fun hHeld => ?_)
        clear hK K
        refine norm_ (a' := ?_) ?_ ?_
        rotate_left
        · show Act.put _ (some 57) _ = _
          simp only [Act.put, List.setIfInBounds_toArray, List.set_cons_zero, List.set_cons_succ, i64_w, i32_w]
          rfl
        refine take_ (i := 14) (N := (some 58)) (v := ?_) (a' := ?_) #[true, true, true, true, true, true, true, true, true, true, true, true, true, true, true, false, true, true, true, false, false, false, false] rfl rfl (take_ofW HT_.out HW_.out (by kernel_rfl)) (fun _ _ _ h => h) (Or.inl ⟨by rfl, ?_⟩) hHeld ?_ ?_
        rotate_left
        · rintro w' _
          go_simp
          with_reducible rfl
        rotate_left
        · simp only [Act.put, List.setIfInBounds_toArray, List.set_cons_zero, List.set_cons_succ, i64_w, i32_w]
          rfl
        refine take_ (i := 15) (N := (some 59)) (v := ?_) (a' := ?_) #[true, true, true, true, true, true, true, true, true, true, true, true, true, true, true, true, true, true, true, false, false, false, false] rfl rfl (take_ofW HT_.out HW_.out (by kernel_rfl)) (fun _ _ _ h => h) (Or.inl ⟨by rfl, ?_⟩) hHeld ?_ ?_
        rotate_left
        · rintro w' _
          go_simp
          with_reducible rfl
        rotate_left
        · simp only [Act.put, List.setIfInBounds_toArray, List.set_cons_zero, List.set_cons_succ, i64_w, i32_w]
          rfl
        refine one_ (i := 19) (N := (some 63)) #[true, true, true, true, true, true, true, true, true, true, true, true, true, true, true, true, true, true, true, true, false, false, false] rfl rfl (one_of HT_.out (by kernel_rfl)) (by decide) (fun K hK => ?_)
        refine step_nothing (by rfl) 63 rfl (.tmp 59) (.tmp 62) 22 5 1 rfl Try.underlying22 dg_info AL z A m c rfl rfl HKM.out.1 ?_
        have HBn := Aside0.mk (show Below W2.heap.size W2 _ by exact (by repeat (first | exact HBW.out | apply below_drew | apply below_alloc | apply pw_below_drewN)))
        clear HBW
        have HBW := HBn
        clear HBn
        have hd3 := CD.out _ HBW.out
        have q8n := (dg_cell hd3 8).trans rfl
        have f8n := dg_free hd3 8
        clear hd3
        refine hK.out _ _ trivial (fun hHeld => ?_)
        clear hK K
        refine norm_ (a' := ?_) ?_ ?_
        rotate_left
        · show Act.put _ (some 63) _ = _
          simp only [Act.put, List.setIfInBounds_toArray, List.set_cons_zero, List.set_cons_succ, i64_w, i32_w]
          rfl
        refine take_ (i := 20) (N := (some 64)) (v := ?_) (a' := ?_) #[true, true, true, true, true, true, true, true, true, true, true, true, true, true, true, true, true, true, true, true, true, false, false] rfl rfl (take_ofW HT_.out HW_.out (by kernel_rfl)) (fun _ _ _ h => h) (Or.inl ⟨by rfl, ?_⟩) hHeld ?_ ?_
        rotate_left
        · rintro w' _
          go_simp
          with_reducible rfl
        rotate_left
        · simp only [Act.put, List.setIfInBounds_toArray, List.set_cons_zero, List.set_cons_succ, i64_w, i32_w]
          rfl
        refine take_ (i := 21) (N := (some 65)) (v := ?_) (a' := ?_) #[true, true, true, true, true, true, true, true, true, true, true, true, true, true, true, true, true, true, true, true, true, true, false] rfl rfl (take_ofW HT_.out HW_.out (by kernel_rfl)) (fun _ _ _ h => h) (Or.inl ⟨by rfl, ?_⟩) hHeld ?_ ?_
        rotate_left
        · rintro w' _
          go_simp
          with_reducible rfl
        rotate_left
        · simp only [Act.put, List.setIfInBounds_toArray, List.set_cons_zero, List.set_cons_succ, i64_w, i32_w]
          rfl
        refine one_ (i := 22) (N := none) #[true, true, true, true, true, true, true, true, true, true, true, true, true, true, true, true, true, true, true, true, true, true, true] rfl rfl (one_of HT_.out (by kernel_rfl)) (by decide) (fun K hK => ?_)
        refine skip_ (by rfl) rfl (w1 := ?_) ?_ ?_
        rotate_left 1
        · (go_simp; first | (with_reducible rfl) | trace_state)
        refine hK.out _ _ trivial (fun hHeld => ?_)
        clear hK K
        refine done_ (done_of HT_.out (by kernel_rfl)) ?_
        go_wp2
        go_meet
        have hz_ : z + m = z := (by have q_ := HKM.out.1; omega)
        have hd_ := dg_left (CD.out _ HBW.out) ((CD.out _ HBW.out).2.2.clip HZ.out.1)
        have hb_ := fun u => dg_bset (dg_below HB3.out HBS.out HBW.out) HD.out 8 u
        exact ⟨AL, z, by rw [hz_], by rw [hz_, HXN.out, List.append_nil]; exact ⟨hd_⟩, ⟨dg_keep_set (dg_keep_below HK2.out HBW.out)⟩, ⟨by first | exact hb_ _ | exact below_drew (hb_ _) | exact pw_below_drewN (hb_ _) _⟩, ⟨fun j hj => by cases AL <;> exact hj⟩⟩
      · skip
        refine value_ (by rfl) rfl (v := ?_) (w1 := ?_) ?_ ?_
        rotate_left 2
        · (go_simp; first | (with_reducible rfl) | (constructor <;> with_reducible rfl))
        refine hK.out _ _ trivial (fun hHeld => ?_)
        clear hK K
        refine norm_ (a' := ?_) ?_ ?_
        rotate_left
        · show Act.put _ (some 57) _ = _
          simp only [Act.put, List.setIfInBounds_toArray, List.set_cons_zero, List.set_cons_succ, i64_w, i32_w]
          rfl
        refine take_ (i := 14) (N := (some 58)) (v := ?_) (a' := ?_) #[true, true, true, true, true, true, true, true, false, false, true, true, true, true, true, false, true, true, true, false, false, false, false] rfl rfl (take_ofW HT_.out HW_.out (by kernel_rfl)) (fun _ _ _ h => h) (Or.inl ⟨by rfl, ?_⟩) hHeld ?_ ?_
        rotate_left
        · rintro w' _
          go_simp
          with_reducible rfl
        rotate_left
        · simp only [Act.put, List.setIfInBounds_toArray, List.set_cons_zero, List.set_cons_succ, i64_w, i32_w]
          rfl
        refine one_ (i := 8) (N := (some 52)) #[true, true, true, true, true, true, true, true, true, false, true, true, true, true, true, false, true, true, true, false, false, false, false] rfl rfl (one_of HT_.out (by kernel_rfl)) (by decide) (fun K hK => ?_)
        refine value_ (by rfl) rfl (v := ?_) (w1 := ?_) ?_ ?_
        rotate_left 2
        · (go_simp; first | (with_reducible rfl) | (constructor <;> with_reducible rfl))
        refine hK.out _ _ trivial (fun hHeld => ?_)
        clear hK K
        refine norm_ (a' := ?_) ?_ ?_
        rotate_left
        · show Act.put _ (some 52) _ = _
          simp only [Act.put, List.setIfInBounds_toArray, List.set_cons_zero, List.set_cons_succ, i64_w, i32_w]
          rfl
        refine take_ (i := 9) (N := (some 53)) (v := ?_) (a' := ?_) #[true, true, true, true, true, true, true, true, true, true, true, true, true, true, true, false, true, true, true, false, false, false, false] rfl rfl (take_ofW HT_.out HW_.out (by kernel_rfl)) (fun _ _ _ h => h) (Or.inl ⟨by rfl, ?_⟩) hHeld ?_ ?_
        rotate_left
        · rintro w' _
          go_simp
          with_reducible rfl
        rotate_left
        · simp only [Act.put, List.setIfInBounds_toArray, List.set_cons_zero, List.set_cons_succ, i64_w, i32_w]
          rfl
        refine take_ (i := 15) (N := (some 59)) (v := ?_) (a' := ?_) #[true, true, true, true, true, true, true, true, true, true, true, true, true, true, true, true, true, true, true, false, false, false, false] rfl rfl (take_ofW HT_.out HW_.out (by kernel_rfl)) (fun _ _ _ h => h) (Or.inl ⟨by rfl, ?_⟩) hHeld ?_ ?_
        rotate_left
        · rintro w' _
          go_simp
          with_reducible rfl
        rotate_left
        · simp only [Act.put, List.setIfInBounds_toArray, List.set_cons_zero, List.set_cons_succ, i64_w, i32_w]
          rfl
        refine one_ (i := 19) (N := (some 63)) #[true, true, true, true, true, true, true, true, true, true, true, true, true, true, true, true, true, true, true, true, false, false, false] rfl rfl (one_of HT_.out (by kernel_rfl)) (by decide) (fun K hK => ?_)
        refine step_nothing (by rfl) 63 rfl (.tmp 59) (.tmp 62) 22 5 1 rfl Try.underlying22 dg_info AL z A m c rfl rfl HKM.out.1 ?_
        have HBn := Aside0.mk (show Below W2.heap.size W2 _ by exact (by repeat (first | exact HBW.out | apply below_drew | apply below_alloc | apply pw_below_drewN)))
        clear HBW
        have HBW := HBn
        clear HBn
        have hd3 := CD.out _ HBW.out
        have q8n := (dg_cell hd3 8).trans rfl
        have f8n := dg_free hd3 8
        clear hd3
        refine hK.out _ _ trivial (fun hHeld => ?_)
        clear hK K
        refine norm_ (a' := ?_) ?_ ?_
        rotate_left
        · show Act.put _ (some 63) _ = _
          simp only [Act.put, List.setIfInBounds_toArray, List.set_cons_zero, List.set_cons_succ, i64_w, i32_w]
          rfl
        refine take_ (i := 20) (N := (some 64)) (v := ?_) (a' := ?_) #[true, true, true, true, true, true, true, true, true, true, true, true, true, true, true, true, true, true, true, true, true, false, false] rfl rfl (take_ofW HT_.out HW_.out (by kernel_rfl)) (fun _ _ _ h => h) (Or.inl ⟨by rfl, ?_⟩) hHeld ?_ ?_
        rotate_left
        · rintro w' _
          go_simp
          with_reducible rfl
        rotate_left
        · simp only [Act.put, List.setIfInBounds_toArray, List.set_cons_zero, List.set_cons_succ, i64_w, i32_w]
          rfl
        refine take_ (i := 21) (N := (some 65)) (v := ?_) (a' := ?_) #[true, true, true, true, true, true, true, true, true, true, true, true, true, true, true, true, true, true, true, true, true, true, false] rfl rfl (take_ofW HT_.out HW_.out (by kernel_rfl)) (fun _ _ _ h => h) (Or.inl ⟨by rfl, ?_⟩) hHeld ?_ ?_
        rotate_left
        · rintro w' _
          go_simp
          with_reducible rfl
        rotate_left
        · simp only [Act.put, List.setIfInBounds_toArray, List.set_cons_zero, List.set_cons_succ, i64_w, i32_w]
          rfl
        refine one_ (i := 22) (N := none) #[true, true, true, true, true, true, true, true, true, true, true, true, true, true, true, true, true, true, true, true, true, true, true] rfl rfl (one_of HT_.out (by kernel_rfl)) (by decide) (fun K hK => ?_)
        refine skip_ (by rfl) rfl (w1 := ?_) ?_ ?_
        rotate_left 1
        · (go_simp; first | (with_reducible rfl) | trace_state)
        refine hK.out _ _ trivial (fun hHeld => ?_)
        clear hK K
        refine done_ (done_of HT_.out (by kernel_rfl)) ?_
        go_wp2
        go_meet
        have hz_ : z + m = z := (by have q_ := HKM.out.1; omega)
        have hd_ := dg_left (CD.out _ HBW.out) ((CD.out _ HBW.out).2.2.clip HZ.out.1)
        have hb_ := fun u => dg_bset (dg_below HB3.out HBS.out HBW.out) HD.out 8 u
        exact ⟨AL, z, by rw [hz_], by rw [hz_, HXN.out, List.append_nil]; exact ⟨hd_⟩, ⟨dg_keep_set (dg_keep_below HK2.out HBW.out)⟩, ⟨by first | exact hb_ _ | exact below_drew (hb_ _) | exact pw_below_drewN (hb_ _) _⟩, ⟨fun j hj => by cases AL <;> exact hj⟩⟩
    · skip
      refine value_ (by rfl) rfl (v := ?_) (w1 := ?_) ?_ ?_
      rotate_left 2
      · (go_simp; first | (with_reducible rfl) | (constructor <;> with_reducible rfl))
      refine hK.out _ _ trivial (fun hHeld => ?_)
      clear hK K
      refine norm_ (a' := ?_) ?_ ?_
      rotate_left
      · show Act.put _ (some 52) _ = _
        simp only [Act.put, List.setIfInBounds_toArray, List.set_cons_zero, List.set_cons_succ, i64_w, i32_w]
        rfl
      refine take_ (i := 9) (N := (some 53)) (v := ?_) (a' := ?_) #[true, true, true, true, false, true, true, true, true, true, true, true, true, false, false, false, true, true, true, false, false, false, false] rfl rfl (take_ofW HT_.out HW_.out (by kernel_rfl)) (fun _ _ _ h => h) (Or.inl ⟨by rfl, ?_⟩) hHeld ?_ ?_
      rotate_left
      · rintro w' _
        go_simp
        with_reducible rfl
      rotate_left
      · simp only [Act.put, List.setIfInBounds_toArray, List.set_cons_zero, List.set_cons_succ, i64_w, i32_w]
        rfl
      refine two_ (i := 4) (j := 13) (Ni := (some 48)) (Nj := (some 57)) #[true, true, true, true, true, true, true, true, true, true, true, true, true, false, false, false, true, true, true, false, false, false, false] #[true, true, true, true, false, true, true, true, true, true, true, true, true, true, false, false, true, true, true, false, false, false, false] rfl rfl rfl rfl (two_of HT_.out (by kernel_rfl)) (by decide) (by decide) (fun K hK => ?_)  (fun K hK => ?_)
      · skip
        refine value_ (by rfl) rfl (v := ?_) (w1 := ?_) ?_ ?_
        rotate_left 2
        · (go_simp; first | (with_reducible rfl) | (constructor <;> with_reducible rfl))
        refine hK.out _ _ trivial (fun hHeld => ?_)
        clear hK K
        refine norm_ (a' := ?_) ?_ ?_
        rotate_left
        · show Act.put _ (some 48) _ = _
          simp only [Act.put, List.setIfInBounds_toArray, List.set_cons_zero, List.set_cons_succ, i64_w, i32_w]
          rfl
        refine one_ (i := 13) (N := (some 57)) #[true, true, true, true, true, true, true, true, true, true, true, true, true, true, false, false, true, true, true, false, false, false, false] rfl rfl (one_of HT_.out (by kernel_rfl)) (by decide) (fun K hK => ?_)
        refine value_ (by rfl) rfl (v := ?_) (w1 := ?_) ?_ ?_
        rotate_left 2
        · (go_simp; first | (with_reducible rfl) | (constructor <;> with_reducible rfl))
        refine hK.out _ _ trivial (fun hHeld => ?_)
        clear hK K
        refine norm_ (a' := ?_) ?_ ?_
        rotate_left
        · show Act.put _ (some 57) _ = _
          simp only [Act.put, List.setIfInBounds_toArray, List.set_cons_zero, List.set_cons_succ, i64_w, i32_w]
          rfl
        refine take_ (i := 14) (N := (some 58)) (v := ?_) (a' := ?_) #[true, true, true, true, true, true, true, true, true, true, true, true, true, true, true, false, true, true, true, false, false, false, false] rfl rfl (take_ofW HT_.out HW_.out (by kernel_rfl)) (fun _ _ _ h => h) (Or.inl ⟨by rfl, ?_⟩) hHeld ?_ ?_
        rotate_left
        · rintro w' _
          go_simp
          with_reducible rfl
        rotate_left
        · simp only [Act.put, List.setIfInBounds_toArray, List.set_cons_zero, List.set_cons_succ, i64_w, i32_w]
          rfl
        refine take_ (i := 15) (N := (some 59)) (v := ?_) (a' := ?_) #[true, true, true, true, true, true, true, true, true, true, true, true, true, true, true, true, true, true, true, false, false, false, false] rfl rfl (take_ofW HT_.out HW_.out (by kernel_rfl)) (fun _ _ _ h => h) (Or.inl ⟨by rfl, ?_⟩) hHeld ?_ ?_
        rotate_left
        · rintro w' _
          go_simp
          with_reducible rfl
        rotate_left
        · simp only [Act.put, List.setIfInBounds_toArray, List.set_cons_zero, List.set_cons_succ, i64_w, i32_w]
          rfl
        refine one_ (i := 19) (N := (some 63)) #[true, true, true, true, true, true, true, true, true, true, true, true, true, true, true, true, true, true, true, true, false, false, false] rfl rfl (one_of HT_.out (by kernel_rfl)) (by decide) (fun K hK => ?_)
        refine step_nothing (by rfl) 63 rfl (.tmp 59) (.tmp 62) 22 5 1 rfl Try.underlying22 dg_info AL z A m c rfl rfl HKM.out.1 ?_
        have HBn := Aside0.mk (show Below W2.heap.size W2 _ by exact (by repeat (first | exact HBW.out | apply below_drew | apply below_alloc | apply pw_below_drewN)))
        clear HBW
        have HBW := HBn
        clear HBn
        have hd3 := CD.out _ HBW.out
        have q8n := (dg_cell hd3 8).trans rfl
        have f8n := dg_free hd3 8
        clear hd3
        refine hK.out _ _ trivial (fun hHeld => ?_)
        clear hK K
        refine norm_ (a' := ?_) ?_ ?_
        rotate_left
        · show Act.put _ (some 63) _ = _
          simp only [Act.put, List.setIfInBounds_toArray, List.set_cons_zero, List.set_cons_succ, i64_w, i32_w]
          rfl
        refine take_ (i := 20) (N := (some 64)) (v := ?_) (a' := ?_) #[true, true, true, true, true, true, true, true, true, true, true, true, true, true, true, true, true, true, true, true, true, false, false] rfl rfl (take_ofW HT_.out HW_.out (by kernel_rfl)) (fun _ _ _ h => h) (Or.inl ⟨by rfl, ?_⟩) hHeld ?_ ?_
        rotate_left
        · rintro w' _
          go_simp
          with_reducible rfl
        rotate_left
        · simp only [Act.put, List.setIfInBounds_toArray, List.set_cons_zero, List.set_cons_succ, i64_w, i32_w]
          rfl
        refine take_ (i := 21) (N := (some 65)) (v := ?_) (a' := ?_) #[true, true, true, true, true, true, true, true, true, true, true, true, true, true, true, true, true, true, true, true, true, true, false] rfl rfl (take_ofW HT_.out HW_.out (by kernel_rfl)) (fun _ _ _ h => h) (Or.inl ⟨by rfl, ?_⟩) hHeld ?_ ?_
        rotate_left
        · rintro w' _
          go_simp
          with_reducible rfl
        rotate_left
        · simp only [Act.put, List.setIfInBounds_toArray, List.set_cons_zero, List.set_cons_succ, i64_w, i32_w]
          rfl
        refine one_ (i := 22) (N := none) #[true, true, true, true, true, true, true, true, true, true, true, true, true, true, true, true, true, true, true, true, true, true, true] rfl rfl (one_of HT_.out (by kernel_rfl)) (by decide) (fun K hK => ?_)
        refine skip_ (by rfl) rfl (w1 := ?_) ?_ ?_
        rotate_left 1
        · (go_simp; first | (with_reducible rfl) | trace_state)
        refine hK.out _ _ trivial (fun hHeld => ?_)
        clear hK K
        refine done_ (done_of HT_.out (by kernel_rfl)) ?_
        go_wp2
        go_meet
        have hz_ : z + m = z := (by have q_ := HKM.out.1; omega)
        have hd_ := dg_left (CD.out _ HBW.out) ((CD.out _ HBW.out).2.2.clip HZ.out.1)
        have hb_ := fun u => dg_bset (dg_below HB3.out HBS.out HBW.out) HD.out 8 u
        exact ⟨AL, z, by rw [hz_], by rw [hz_, HXN.out, List.append_nil]; exact ⟨hd_⟩, ⟨dg_keep_set (dg_keep_below HK2.out HBW.out)⟩, ⟨by first | exact hb_ _ | exact below_drew (hb_ _) | exact pw_below_drewN (hb_ _) _⟩, ⟨fun j hj => by cases AL <;> exact hj⟩⟩
      · skip
        refine value_ (by rfl) rfl (v := ?_) (w1 := ?_) ?_ ?_
        rotate_left 2
        · (go_simp; first | (with_reducible rfl) | (constructor <;> with_reducible rfl))
        refine hK.out _ _ trivial (fun hHeld => ?_)
        clear hK K
        refine norm_ (a' := ?_) ?_ ?_
        rotate_left
        · show Act.put _ (some 57) _ = _
          simp only [Act.put, List.setIfInBounds_toArray, List.set_cons_zero, List.set_cons_succ, i64_w, i32_w]
          rfl
        refine take_ (i := 14) (N := (some 58)) (v := ?_) (a' := ?_) #[true, true, true, true, false, true, true, true, true, true, true, true, true, true, true, false, true, true, true, false, false, false, false] rfl rfl (take_ofW HT_.out HW_.out (by kernel_rfl)) (fun _ _ _ h => h) (Or.inl ⟨by rfl, ?_⟩) hHeld ?_ ?_
        rotate_left
        · rintro w' _
          go_simp
          with_reducible rfl
        rotate_left
        · simp only [Act.put, List.setIfInBounds_toArray, List.set_cons_zero, List.set_cons_succ, i64_w, i32_w]
          rfl
        refine one_ (i := 4) (N := (some 48)) #[true, true, true, true, true, true, true, true, true, true, true, true, true, true, true, false, true, true, true, false, false, false, false] rfl rfl (one_of HT_.out (by kernel_rfl)) (by decide) (fun K hK => ?_)
        refine value_ (by rfl) rfl (v := ?_) (w1 := ?_) ?_ ?_
        rotate_left 2
        · (go_simp; first | (with_reducible rfl) | (constructor <;> with_reducible rfl))
        refine hK.out _ _ trivial (fun hHeld => ?_)
        clear hK K
        refine norm_ (a' := ?_) ?_ ?_
        rotate_left
        · show Act.put _ (some 48) _ = _
          simp only [Act.put, List.setIfInBounds_toArray, List.set_cons_zero, List.set_cons_succ, i64_w, i32_w]
          rfl
        refine take_ (i := 15) (N := (some 59)) (v := ?_) (a' := ?_) #[true, true, true, true, true, true, true, true, true, true, true, true, true, true, true, true, true, true, true, false, false, false, false] rfl rfl (take_ofW HT_.out HW_.out (by kernel_rfl)) (fun _ _ _ h => h) (Or.inl ⟨by rfl, ?_⟩) hHeld ?_ ?_
        rotate_left
        · rintro w' _
          go_simp
          with_reducible rfl
        rotate_left
        · simp only [Act.put, List.setIfInBounds_toArray, List.set_cons_zero, List.set_cons_succ, i64_w, i32_w]
          rfl
        refine one_ (i := 19) (N := (some 63)) #[true, true, true, true, true, true, true, true, true, true, true, true, true, true, true, true, true, true, true, true, false, false, false] rfl rfl (one_of HT_.out (by kernel_rfl)) (by decide) (fun K hK => ?_)
        refine step_nothing (by rfl) 63 rfl (.tmp 59) (.tmp 62) 22 5 1 rfl Try.underlying22 dg_info AL z A m c rfl rfl HKM.out.1 ?_
        have HBn := Aside0.mk (show Below W2.heap.size W2 _ by exact (by repeat (first | exact HBW.out | apply below_drew | apply below_alloc | apply pw_below_drewN)))
        clear HBW
        have HBW := HBn
        clear HBn
        have hd3 := CD.out _ HBW.out
        have q8n := (dg_cell hd3 8).trans rfl
        have f8n := dg_free hd3 8
        clear hd3
        refine hK.out _ _ trivial (fun hHeld => ?_)
        clear hK K
        refine norm_ (a' := ?_) ?_ ?_
        rotate_left
        · show Act.put _ (some 63) _ = _
          simp only [Act.put, List.setIfInBounds_toArray, List.set_cons_zero, List.set_cons_succ, i64_w, i32_w]
          rfl
        refine take_ (i := 20) (N := (some 64)) (v := ?_) (a' := ?_) #[true, true, true, true, true, true, true, true, true, true, true, true, true, true, true, true, true, true, true, true, true, false, false] rfl rfl (take_ofW HT_.out HW_.out (by kernel_rfl)) (fun _ _ _ h => h) (Or.inl ⟨by rfl, ?_⟩) hHeld ?_ ?_
        rotate_left
        · rintro w' _
          go_simp
          with_reducible rfl
        rotate_left
        · simp only [Act.put, List.setIfInBounds_toArray, List.set_cons_zero, List.set_cons_succ, i64_w, i32_w]
          rfl
        refine take_ (i := 21) (N := (some 65)) (v := ?_) (a' := ?_) #[true, true, true, true, true, true, true, true, true, true, true, true, true, true, true, true, true, true, true, true, true, true, false] rfl rfl (take_ofW HT_.out HW_.out (by kernel_rfl)) (fun _ _ _ h => h) (Or.inl ⟨by rfl, ?_⟩) hHeld ?_ ?_
        rotate_left
        · rintro w' _
          go_simp
          with_reducible rfl
        rotate_left
        · simp only [Act.put, List.setIfInBounds_toArray, List.set_cons_zero, List.set_cons_succ, i64_w, i32_w]
          rfl
        refine one_ (i := 22) (N := none) #[true, true, true, true, true, true, true, true, true, true, true, true, true, true, true, true, true, true, true, true, true, true, true] rfl rfl (one_of HT_.out (by kernel_rfl)) (by decide) (fun K hK => ?_)
        refine skip_ (by rfl) rfl (w1 := ?_) ?_ ?_
        rotate_left 1
        · (go_simp; first | (with_reducible rfl) | trace_state)
        refine hK.out _ _ trivial (fun hHeld => ?_)
        clear hK K
        refine done_ (done_of HT_.out (by kernel_rfl)) ?_
        go_wp2
        go_meet
        have hz_ : z + m = z := (by have q_ := HKM.out.1; omega)
        have hd_ := dg_left (CD.out _ HBW.out) ((CD.out _ HBW.out).2.2.clip HZ.out.1)
        have hb_ := fun u => dg_bset (dg_below HB3.out HBS.out HBW.out) HD.out 8 u
        exact ⟨AL, z, by rw [hz_], by rw [hz_, HXN.out, List.append_nil]; exact ⟨hd_⟩, ⟨dg_keep_set (dg_keep_below HK2.out HBW.out)⟩, ⟨by first | exact hb_ _ | exact below_drew (hb_ _) | exact pw_below_drewN (hb_ _) _⟩, ⟨fun j hj => by cases AL <;> exact hj⟩⟩
    · skip
      refine value_ (by rfl) rfl (v := ?_) (w1 := ?_) ?_ ?_
      rotate_left 2
      · (go_simp; first | (with_reducible rfl) | (constructor <;> with_reducible rfl))
      refine hK.out _ _ trivial (fun hHeld => ?_)
      clear hK K
      refine norm_ (a' := ?_) ?_ ?_
      rotate_left
      · show Act.put _ (some 57) _ = _
        simp only [Act.put, List.setIfInBounds_toArray, List.set_cons_zero, List.set_cons_succ, i64_w, i32_w]
        rfl
      refine take_ (i := 14) (N := (some 58)) (v := ?_) (a' := ?_) #[true, true, true, true, false, true, true, true, false, false, true, true, true, true, true, false, true, true, true, false, false, false, false] rfl rfl (take_ofW HT_.out HW_.out (by kernel_rfl)) (fun _ _ _ h => h) (Or.inl ⟨by rfl, ?_⟩) hHeld ?_ ?_
      rotate_left
      · rintro w' _
        go_simp
        with_reducible rfl
      rotate_left
      · simp only [Act.put, List.setIfInBounds_toArray, List.set_cons_zero, List.set_cons_succ, i64_w, i32_w]
        rfl
      refine two_ (i := 4) (j := 8) (Ni := (some 48)) (Nj := (some 52)) #[true, true, true, true, true, true, true, true, false, false, true, true, true, true, true, false, true, true, true, false, false, false, false] #[true, true, true, true, false, true, true, true, true, false, true, true, true, true, true, false, true, true, true, false, false, false, false] rfl rfl rfl rfl (two_of HT_.out (by kernel_rfl)) (by decide) (by decide) (fun K hK => ?_)  (fun K hK => ?_)
      · skip
        refine value_ (by rfl) rfl (v := ?_) (w1 := ?_) ?_ ?_
        rotate_left 2
        · (go_simp; first | (with_reducible rfl) | (constructor <;> with_reducible rfl))
        refine hK.out _ _ trivial (fun hHeld => ?_)
        clear hK K
        refine norm_ (a' := ?_) ?_ ?_
        rotate_left
        · show Act.put _ (some 48) _ = _
          simp only [Act.put, List.setIfInBounds_toArray, List.set_cons_zero, List.set_cons_succ, i64_w, i32_w]
          rfl
        refine one_ (i := 8) (N := (some 52)) #[true, true, true, true, true, true, true, true, true, false, true, true, true, true, true, false, true, true, true, false, false, false, false] rfl rfl (one_of HT_.out (by kernel_rfl)) (by decide) (fun K hK => ?_)
        refine value_ (by rfl) rfl (v := ?_) (w1 := ?_) ?_ ?_
        rotate_left 2
        · (go_simp; first | (with_reducible rfl) | (constructor <;> with_reducible rfl))
        refine hK.out _ _ trivial (fun hHeld => ?_)
        clear hK K
        refine norm_ (a' := ?_) ?_ ?_
        rotate_left
        · show Act.put _ (some 52) _ = _
          simp only [Act.put, List.setIfInBounds_toArray, List.set_cons_zero, List.set_cons_succ, i64_w, i32_w]
          rfl
        refine take_ (i := 9) (N := (some 53)) (v := ?_) (a' := ?_) #[true, true, true, true, true, true, true, true, true, true, true, true, true, true, true, false, true, true, true, false, false, false, false] rfl rfl (take_ofW HT_.out HW_.out (by kernel_rfl)) (fun _ _ _ h => h) (Or.inl ⟨by rfl, ?_⟩) hHeld ?_ ?_
        rotate_left
        · rintro w' _
          go_simp
          with_reducible rfl
        rotate_left
        · simp only [Act.put, List.setIfInBounds_toArray, List.set_cons_zero, List.set_cons_succ, i64_w, i32_w]
          rfl
        refine take_ (i := 15) (N := (some 59)) (v := ?_) (a' := ?_) #[true, true, true, true, true, true, true, true, true, true, true, true, true, true, true, true, true, true, true, false, false, false, false] rfl rfl (take_ofW HT_.out HW_.out (by kernel_rfl)) (fun _ _ _ h => h) (Or.inl ⟨by rfl, ?_⟩) hHeld ?_ ?_
        rotate_left
        · rintro w' _
          go_simp
          with_reducible rfl
        rotate_left
        · simp only [Act.put, List.setIfInBounds_toArray, List.set_cons_zero, List.set_cons_succ, i64_w, i32_w]
          rfl
        refine one_ (i := 19) (N := (some 63)) #[true, true, true, true, true, true, true, true, true, true, true, true, true, true, true, true, true, true, true, true, false, false, false] rfl rfl (one_of HT_.out (by kernel_rfl)) (by decide) (fun K hK => ?_)
        refine step_nothing (by rfl) 63 rfl (.tmp 59) (.tmp 62) 22 5 1 rfl Try.underlying22 dg_info AL z A m c rfl rfl HKM.out.1 ?_
        have HBn := Aside0.mk (show Below W2.heap.size W2 _ by exact (by repeat (first | exact HBW.out | apply below_drew | apply below_alloc | apply pw_below_drewN)))
        clear HBW
        have HBW := HBn
        clear HBn
        have hd3 := CD.out _ HBW.out
        have q8n := (dg_cell hd3 8).trans rfl
        have f8n := dg_free hd3 8
        clear hd3
        refine hK.out _ _ trivial (fun hHeld => ?_)
        clear hK K
        refine norm_ (a' := ?_) ?_ ?_
        rotate_left
        · show Act.put _ (some 63) _ = _
          simp only [Act.put, List.setIfInBounds_toArray, List.set_cons_zero, List.set_cons_succ, i64_w, i32_w]
          rfl
        refine take_ (i := 20) (N := (some 64)) (v := ?_) (a' := ?_) #[true, true, true, true, true, true, true, true, true, true, true, true, true, true, true, true, true, true, true, true, true, false, false] rfl rfl (take_ofW HT_.out HW_.out (by kernel_rfl)) (fun _ _ _ h => h) (Or.inl ⟨by rfl, ?_⟩) hHeld ?_ ?_
        rotate_left
        · rintro w' _
          go_simp
          with_reducible rfl
        rotate_left
        · simp only [Act.put, List.setIfInBounds_toArray, List.set_cons_zero, List.set_cons_succ, i64_w, i32_w]
          rfl
        refine take_ (i := 21) (N := (some 65)) (v := ?_) (a' := ?_) #[true, true, true, true, true, true, true, true, true, true, true, true, true, true, true, true, true, true, true, true, true, true, false] rfl rfl (take_ofW HT_.out HW_.out (by kernel_rfl)) (fun _ _ _ h => h) (Or.inl ⟨by rfl, ?_⟩) hHeld ?_ ?_
        rotate_left
        · rintro w' _
          go_simp
          with_reducible rfl
        rotate_left
        · simp only [Act.put, List.setIfInBounds_toArray, List.set_cons_zero, List.set_cons_succ, i64_w, i32_w]
          rfl
        refine one_ (i := 22) (N := none) #[true, true, true, true, true, true, true, true, true, true, true, true, true, true, true, true, true, true, true, true, true, true, true] rfl rfl (one_of HT_.out (by kernel_rfl)) (by decide) (fun K hK => ?_)
        refine skip_ (by rfl) rfl (w1 := ?_) ?_ ?_
        rotate_left 1
        · (go_simp; first | (with_reducible rfl) | trace_state)
        refine hK.out _ _ trivial (fun hHeld => ?_)
        clear hK K
        refine done_ (done_of HT_.out (by kernel_rfl)) ?_
        go_wp2
        go_meet
        have hz_ : z + m = z := (by have q_ := HKM.out.1; omega)
        have hd_ := dg_left (CD.out _ HBW.out) ((CD.out _ HBW.out).2.2.clip HZ.out.1)
        have hb_ := fun u => dg_bset (dg_below HB3.out HBS.out HBW.out) HD.out 8 u
        exact ⟨AL, z, by rw [hz_], by rw [hz_, HXN.out, List.append_nil]; exact ⟨hd_⟩, ⟨dg_keep_set (dg_keep_below HK2.out HBW.out)⟩, ⟨by first | exact hb_ _ | exact below_drew (hb_ _) | exact pw_below_drewN (hb_ _) _⟩, ⟨fun j hj => by cases AL <;> exact hj⟩⟩
      · skip
        refine value_ (by rfl) rfl (v := ?_) (w1 := ?_) ?_ ?_
        rotate_left 2
        · (go_simp; first | (with_reducible rfl) | (constructor <;> with_reducible rfl))
        refine hK.out _ _ trivial (fun hHeld => ?_)
        clear hK K
        refine norm_ (a' := ?_) ?_ ?_
        rotate_left
        · show Act.put _ (some 52) _ = _
          simp only [Act.put, List.setIfInBounds_toArray, List.set_cons_zero, List.set_cons_succ, i64_w, i32_w]
          rfl
        refine take_ (i := 9) (N := (some 53)) (v := ?_) (a' := ?_) #[true, true, true, true, false, true, true, true, true, true, true, true, true, true, true, false, true, true, true, false, false, false, false] rfl rfl (take_ofW HT_.out HW_.out (by kernel_rfl)) (fun _ _ _ h => h) (Or.inl ⟨by rfl, ?_⟩) hHeld ?_ ?_
        rotate_left
        · rintro w' _
          go_simp
          with_reducible rfl
        rotate_left
        · simp only [Act.put, List.setIfInBounds_toArray, List.set_cons_zero, List.set_cons_succ, i64_w, i32_w]
          rfl
        refine one_ (i := 4) (N := (some 48)) #[true, true, true, true, true, true, true, true, true, true, true, true, true, true, true, false, true, true, true, false, false, false, false] rfl rfl (one_of HT_.out (by kernel_rfl)) (by decide) (fun K hK => ?_)
        refine value_ (by rfl) rfl (v := ?_) (w1 := ?_) ?_ ?_
        rotate_left 2
        · (go_simp; first | (with_reducible rfl) | (constructor <;> with_reducible rfl))
        refine hK.out _ _ trivial (fun hHeld => ?_)
        clear hK K
        refine norm_ (a' := ?_) ?_ ?_
        rotate_left
        · show Act.put _ (some 48) _ = _
          simp only [Act.put, List.setIfInBounds_toArray, List.set_cons_zero, List.set_cons_succ, i64_w, i32_w]
          rfl
        refine take_ (i := 15) (N := (some 59)) (v := ?_) (a' := ?_) #[true, true, true, true, true, true, true, true, true, true, true, true, true, true, true, true, true, true, true, false, false, false, false] rfl rfl (take_ofW HT_.out HW_.out (by kernel_rfl)) (fun _ _ _ h => h) (Or.inl ⟨by rfl, ?_⟩) hHeld ?_ ?_
        rotate_left
        · rintro w' _
          go_simp
          with_reducible rfl
        rotate_left
        · simp only [Act.put, List.setIfInBounds_toArray, List.set_cons_zero, List.set_cons_succ, i64_w, i32_w]
          rfl
        refine one_ (i := 19) (N := (some 63)) #[true, true, true, true, true, true, true, true, true, true, true, true, true, true, true, true, true, true, true, true, false, false, false] rfl rfl (one_of HT_.out (by kernel_rfl)) (by decide) (fun K hK => ?_)
        refine step_nothing (by rfl) 63 rfl (.tmp 59) (.tmp 62) 22 5 1 rfl Try.underlying22 dg_info AL z A m c rfl rfl HKM.out.1 ?_
        have HBn := Aside0.mk (show Below W2.heap.size W2 _ by exact (by repeat (first | exact HBW.out | apply below_drew | apply below_alloc | apply pw_below_drewN)))
        clear HBW
        have HBW := HBn
        clear HBn
        have hd3 := CD.out _ HBW.out
        have q8n := (dg_cell hd3 8).trans rfl
        have f8n := dg_free hd3 8
        clear hd3
        refine hK.out _ _ trivial (fun hHeld => ?_)
        clear hK K
        refine norm_ (a' := ?_) ?_ ?_
        rotate_left
        · show Act.put _ (some 63) _ = _
          simp only [Act.put, List.setIfInBounds_toArray, List.set_cons_zero, List.set_cons_succ, i64_w, i32_w]
          rfl
        refine take_ (i := 20) (N := (some 64)) (v := ?_) (a' := ?_) #[true, true, true, true, true, true, true, true, true, true, true, true, true, true, true, true, true, true, true, true, true, false, false] rfl rfl (take_ofW HT_.out HW_.out (by kernel_rfl)) (fun _ _ _ h => h) (Or.inl ⟨by rfl, ?_⟩) hHeld ?_ ?_
        rotate_left
        · rintro w' _
          go_simp
          with_reducible rfl
        rotate_left
        · simp only [Act.put, List.setIfInBounds_toArray, List.set_cons_zero, List.set_cons_succ, i64_w, i32_w]
          rfl
        refine take_ (i := 21) (N := (some 65)) (v := ?_) (a' := ?_) #[true, true, true, true, true, true, true, true, true, true, true, true, true, true, true, true, true, true, true, true, true, true, false] rfl rfl (take_ofW HT_.out HW_.out (by kernel_rfl)) (fun _ _ _ h => h) (Or.inl ⟨by rfl, ?_⟩) hHeld ?_ ?_
        rotate_left
        · rintro w' _
          go_simp
          with_reducible rfl
        rotate_left
        · simp only [Act.put, List.setIfInBounds_toArray, List.set_cons_zero, List.set_cons_succ, i64_w, i32_w]
          rfl
        refine one_ (i := 22) (N := none) #[true, true, true, true, true, true, true, true, true, true, true, true, true, true, true, true, true, true, true, true, true, true, true] rfl rfl (one_of HT_.out (by kernel_rfl)) (by decide) (fun K hK => ?_)
        refine skip_ (by rfl) rfl (w1 := ?_) ?_ ?_
        rotate_left 1
        · (go_simp; first | (with_reducible rfl) | trace_state)
        refine hK.out _ _ trivial (fun hHeld => ?_)
        clear hK K
        refine done_ (done_of HT_.out (by kernel_rfl)) ?_
        go_wp2
        go_meet
        have hz_ : z + m = z := (by have q_ := HKM.out.1; omega)
        have hd_ := dg_left (CD.out _ HBW.out) ((CD.out _ HBW.out).2.2.clip HZ.out.1)
        have hb_ := fun u => dg_bset (dg_below HB3.out HBS.out HBW.out) HD.out 8 u
        exact ⟨AL, z, by rw [hz_], by rw [hz_, HXN.out, List.append_nil]; exact ⟨hd_⟩, ⟨dg_keep_set (dg_keep_below HK2.out HBW.out)⟩, ⟨by first | exact hb_ _ | exact below_drew (hb_ _) | exact pw_below_drewN (hb_ _) _⟩, ⟨fun j hj => by cases AL <;> exact hj⟩⟩
  case rest =>
    obtain ⟨A6, c6, rfl, KD, KK, KB, KN⟩ := hcut
    have r8 := (dg_cell KD.out 8).trans rfl
    have jm : (m : Int) ≤ (m : Int) := Int.le_refl _
    have jlt : ((z + m : Nat) : Int) < 64 := by have q_ := HKM.out; omega
    rw [Int.natCast_add] at jlt
    go_wp2
    all_goals
      go_ret
      exact ⟨rfl, _, KD.out, KK.out, KB.out, fun j hj => by have q_ := KN.out j hj; cases AL <;> exact q_⟩
end Go.Proofs.Ytbkchjiiaehhpaa.Obj
