/- Contracts of Go functions that the claims of this seat share. -/
import Derived.Test.YtbkchjiiaehhpaaProg
import Derived.Below
import Derived.Deep.Draws
import Derived.Deep.AppendLies
import Derived.Maps.AppendAt
import Derived.OwnWalk
import Derived.Laws.BytesArg
import Derived.Laws.MakeOwn
import Derived.Laws.OwnMore
import Derived.Deep.OwnRows
import Derived.Tactics
import Derived.Lib.ConvBytes
import Derived.Laws.Slices
import Derived.WalkKit
import Derived.KernelRfl
import Derived.RowKit3
import Derived.Deep.LoopGhost
import Derived.Deep.QuietTactic
import Derived.BigQuiet
import Derived.WideLaws
import Derived.Deep.DeepCutAuto
import Derived.Deep.CutBlock
import Derived.Deep.RegionHeld3
import Derived.Laws.Rows
import Derived.Lib.AppendStr
import Derived.ArgAppend
import Derived.Laws.IdiomCopy
import Derived.OrdersHeld
import Derived.Laws.BitsLemmas
import Derived.RowKit
import Derived.Test.YtbkchjiiaehhpaaWWords
import Derived.Test.YtbkchjiiaehhpaaWLast
import Derived.Test.YtbkchjiiaehhpaaWTab
import Derived.Test.YtbkchjiiaehhpaaWFour
import Derived.Test.YtbkchjiiaehhpaaWQPut
import Derived.Test.YtbkchjiiaehhpaaWApart
import Derived.Test.YtbkchjiiaehhpaaWArr
import Derived.Test.YtbkchjiiaehhpaaWZeros
import Derived.Test.YtbkchjiiaehhpaaWFoot
import Derived.Test.YtbkchjiiaehhpaaWKept
import Derived.Test.YtbkchjiiaehhpaaWShare
import Derived.Test.YtbkchjiiaehhpaaWN
import Derived.Test.YtbkchjiiaehhpaaWFootNe
import Derived.Test.YtbkchjiiaehhpaaWAt
import Derived.Test.YtbkchjiiaehhpaaWEqStruct
import Derived.Test.YtbkchjiiaehhpaaWRepsOne
import Derived.Test.YtbkchjiiaehhpaaWInv
import Derived.Test.YtbkchjiiaehhpaaWInvWords
import Derived.Test.YtbkchjiiaehhpaaWGuard
import Derived.Test.YtbkchjiiaehhpaaWNEv
import Derived.Test.YtbkchjiiaehhpaaWMore
import Derived.Test.YtbkchjiiaehhpaaX0Mem
import Derived.Test.YtbkchjiiaehhpaaX1Pure
namespace Go.Proofs.Ytbkchjiiaehhpaa.Obj
open Go.RowKit Go.Proofs.YtbkchjiiaehhpaaW.PrintWords Go.Proofs.YtbkchjiiaehhpaaW.PrintLast Go.Proofs.YtbkchjiiaehhpaaW.PrintMore
set_option linter.unusedVariables false
set_option linter.unusedSimpArgs false
section
variable {P : Program} {ops : Array Oper} {rest : List Oper} {o : Oper} {a : Act} {Q : Exit → Act → World → Prop}
/-- A cut whose value is known at every world. -/
theorem x_slice {W : World} (hgd : o.guard = none) (t e : TypeId) (ht : P.underlying t = some (.slice e)) (x : Operand) (lo hi mx : Option Operand) (ho : o.op = .slice t x lo hi mx)
    (xv : Value) (lv hv mv : Option Value) (hx : a.eval x = xv) (hl : lo.map a.eval = lv) (hh : hi.map a.eval = hv) (hm : mx.map a.eval = mv) (r : Value) (hrun : ∀ W, (Instr.slice t xv lv hv mv).run P W = .ok r W)
    (h : wpList P ops Q rest (a.put o.dst r) W) : wpList P ops Q (o :: rest) a W := by
  have hel : P.elem t = e := by simp [Program.elem, ht]
  have hu : P.underlying t = some (.slice (P.elem t)) := by rw [hel]; exact ht
  refine Kd.event_run hgd (v := r) (w1 := W) ?_ h
  have h1 := run_sliceAt_slice W t xv lv hv mv hu
  rw [hrun W] at h1
  simp only [execOp, ho, hx, hl, hh, hm, Sem.run_bind, h1, Result.andThen_ok]
  rfl
/-- s[a:a+m:a+m] -/
theorem cut3 (t e : TypeId) (ht : P.underlying t = some (.slice e)) {i : TypeInfo} (hi : P.info? e = some i) (hsz : i.size = 1) (A : Option Addr) (len cap a m : Nat) (h : a + m ≤ cap) :
    ∀ W : World, (Instr.slice t (.slice A len cap) (some (.int .i64 (a : Int))) (some (.int .i64 ((a : Int) + (m : Int)))) (some (.int .i64 ((a : Int) + (m : Int))))).run P W = .ok (.slice (if m = 0 then A else A.map (·.add a)) m m) W := by
  intro W
  have hel : P.elem t = e := by simp [Program.elem, ht]
  have hu : P.underlying t = some (.slice (P.elem t)) := by rw [hel]; exact ht
  rw [run_slice_lhm W t A len cap hu .i64 .i64 .i64 (a : Int) ((a : Int) + (m : Int)) ((a : Int) + (m : Int)) (by omega) (by omega) (by omega) (by omega), hel]
  have e1 : ((a : Int) + (m : Int)).toNat = a + m := by omega
  by_cases h0 : m = 0
  · subst h0; simp [sizeOf, typeInfo, hi, hsz, sliced, Result.andThen]
  · simp [sizeOf, typeInfo, hi, hsz, sliced, Result.andThen, h0, e1]
/-- s[:k] -/
theorem cutH (t e : TypeId) (ht : P.underlying t = some (.slice e)) {i : TypeInfo} (hi : P.info? e = some i) (A : Option Addr) (len cap k : Nat) (h : k ≤ cap) :
    ∀ W : World, (Instr.slice t (.slice A len cap) none (some (.int .i64 (k : Int))) none).run P W = .ok (.slice A k cap) W := by
  intro W
  have hel : P.elem t = e := by simp [Program.elem, ht]
  have hu : P.underlying t = some (.slice (P.elem t)) := by rw [hel]; exact ht
  have ha : (A.map fun x => x.add 0) = A := by cases A <;> simp [Addr.add]
  rw [run_slice_h W t A len cap hu .i64 (k : Int) (by omega) (by omega), hel]
  simp [sizeOf, typeInfo, hi, sliced, Result.andThen, ha]
end
theorem take_splice {α : Type} (C Y : List α) (off L : Nat) (h : off + Y.length ≤ L) (hL : L ≤ C.length) : (C.take off ++ (Y ++ C.drop (off + Y.length))).take L = (C.take L).take off ++ (Y ++ (C.take L).drop (off + Y.length)) := by
  have h1 : (C.take off).length = off := by rw [List.length_take]; omega
  rw [List.take_append, h1, List.take_of_length_le (l := C.take off) (i := L) (by omega), List.take_append, List.take_of_length_le (l := Y) (i := L - off) (by omega), List.take_take, Nat.min_eq_left (by omega), List.drop_take, Nat.sub_sub]
section
variable {P : Program} {ops : Array Oper} {rest : List Oper} {o : Oper} {a : Act} {Q : Exit → Act → World → Prop}
/-- copy into a part of a row of one's own. -/
theorem x_copyAt (k : IntKind) {w0 W : World} (base e : Nat) (hgd : o.guard = none) (d s : Operand) (dT sT : TypeId)
    (ho : o.op = .call { callee := .builtin .copy, args := #[d, s], argTypes := #[dT, sT] }) (hu : P.underlying dT = some (.slice e)) (hsz : (P.info? e).map (·.size) = some 1)
    (v : Value) (off m m' c' : Nat) (dp : Option Addr) (xs ys zs : List Int) (A : Option Addr) (c : Nat) (ok : Nat → Prop) (hdv : a.eval d = .slice dp m c') (hsv : a.eval s = .slice A m' c)
    (HO : (Kd.int k).R e W base ok v xs) (HR : (Kd.int k).C W A m' zs) (hys : zs.take m = ys) (hdp : 0 < m → ∃ g n cap, v = .slice (some ⟨g, 0, none⟩) n cap ∧ dp = some ⟨g, off, none⟩) (hfit : off + m ≤ xs.length) (HB : Below base w0 W)
    (h : ∀ w1, (Kd.int k).R e w1 base ok v (xs.take off ++ (ys ++ xs.drop (off + ys.length))) → Below base w0 w1 → W.grownBy w1 v.ownBlock → wpList P ops Q rest (a.put o.dst (goInt ys.length)) w1) : wpList P ops Q (o :: rest) a W := by
  have ho1 := Kd.own_of_R HO
  have hzl : zs.length = m' := HR.1
  have hlen : ys.length = min m' m := by rw [← hys, List.length_take]; omega
  have hmin : ys.length = Nat.min m' m := hlen
  by_cases h0 : ys = []
  · subst h0
    refine wpList_copy_nothing hgd d s dT sT ho e hu hsz _ _ _ _ _ _ hdv hsv hmin.symm ?_
    exact h W (by simpa using HO) HB ⟨rfl, rfl, rfl, Nat.le_refl _, fun _ _ _ => rfl⟩
  · have hpos : 0 < ys.length := List.length_pos_iff.2 h0
    have hm : 0 < m ∧ 0 < m' ∧ ys.length ≤ m ∧ ys.length ≤ m' := by omega
    obtain ⟨g, n, cap, rfl, rfl⟩ := hdp hm.1
    rcases ho1.2 with ⟨hv, hn⟩ | ⟨g', cap', cur, hv, hg, hh, hnc, hcm, hcs, htk⟩
    · cases hv
    · injection hv with hv1 hv2 hv3
      injection hv1 with hv1
      injection hv1 with hv1 _ _
      subst hv1; subst hv2; subst hv3
      obtain ⟨ad, rfl, hc⟩ := (Kd.reads_of_C (d := (0 : Int)) HR).2.2 hm.2.1
      have hsrc : ∀ j u, (nums k ys)[j]? = some u → W.cell? (ad.add j) = some u := by
        intro j u hj
        obtain ⟨hl, hp⟩ := List.getElem?_eq_some_iff.1 hj
        simp [nums] at hl
        rw [hc j (by omega)]
        simp [nums] at hp
        have hz : zs[j]'(by omega) = ys[j] := by subst hys; simp
        rw [← hp, ← hz, List.getD_eq_getElem?_getD, List.getElem?_eq_getElem (show j < zs.length by omega)]
        rfl
      have hcap : xs.length ≤ cur.size := by omega
      refine wpList_copy_own hgd d s dT sT ho e hu hsz g off m c' ad m' c hdv hsv cur e hh (nums k ys) (by rw [nums_length]; exact hmin) hsrc (by rw [nums_length]; omega) (by simp [nums, Value.oneCell']) ?_
      simp only [nums_length]
      have hcur : cur.toList.take xs.length = nums k xs := by simpa [nums, encs] using htk
      refine h _ (Kd.R_of_own ?_ HO.1) (below_setRow HB hg _) ?_
      · refine ⟨?_, .inr ⟨g, cap, _, ?_, hg, setRow_heap W g _ _ e _ hh, ?_, hcm, ?_, ?_⟩⟩
        · simp [encs]
        · simp; omega
        · simp; omega
        · simp [nums]; omega
        · show _ = nums k (xs.take off ++ (ys ++ xs.drop (off + ys.length)))
          have hlx : (xs.take off ++ (ys ++ xs.drop (off + ys.length))).length * 1 = xs.length := by
            rw [List.length_append, List.length_append, List.length_take, List.length_drop]; omega
          rw [hlx]
          have hy : ys.length = (nums k ys).length := (nums_length _ _).symm
          show ((cur.toList.take off ++ (nums k ys ++ cur.toList.drop (off + ys.length))).take xs.length) = _
          rw [hy, take_splice _ _ _ _ (by rw [nums_length]; omega) (by simp; omega), hcur, nums_append, nums_append]
          simp only [nums, List.map_take, List.map_drop, List.length_map]
      · exact ⟨rfl, rfl, rfl, by simp [World.setRow], fun i hi hne => setRow_other W g i _ (by intro e'; subst e'; exact hne rfl)⟩
end
end Go.Proofs.Ytbkchjiiaehhpaa.Obj
