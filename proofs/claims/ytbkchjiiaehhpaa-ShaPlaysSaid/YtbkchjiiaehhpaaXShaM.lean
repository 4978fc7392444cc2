/- Contracts of Go functions that the claims of this seat share. -/
import Derived.Test.YtbkchjiiaehhpaaProg
import Derived.Below
import Derived.Deep.Draws
import Derived.Deep.AppendLies
import Derived.Maps.AppendAt
import Derived.OwnWalk
import Derived.Laws.BytesArg
import Derived.Laws.MakeOwn
import Derived.Laws.OwnMore
import Derived.Deep.OwnRows
import Derived.Tactics
import Derived.Lib.ConvBytes
import Derived.Laws.Slices
import Derived.WalkKit
import Derived.KernelRfl
import Derived.RowKit3
import Derived.Deep.LoopGhost
import Derived.Deep.QuietTactic
import Derived.BigQuiet
import Derived.WideLaws
import Derived.Deep.DeepCutAuto
import Derived.Deep.CutBlock
import Derived.Deep.RegionHeld3
import Derived.Laws.Rows
import Derived.Lib.AppendStr
import Derived.ArgAppend
import Derived.Laws.IdiomCopy
import Derived.OrdersHeld
import Derived.Laws.BitsLemmas
import Derived.RowKit
import Derived.Test.YtbkchjiiaehhpaaWWords
import Derived.Test.YtbkchjiiaehhpaaWLast
import Derived.Test.YtbkchjiiaehhpaaWTab
import Derived.Test.YtbkchjiiaehhpaaWFour
import Derived.Test.YtbkchjiiaehhpaaWQPut
import Derived.Test.YtbkchjiiaehhpaaWApart
import Derived.Test.YtbkchjiiaehhpaaWArr
import Derived.Test.YtbkchjiiaehhpaaWZeros
import Derived.Test.YtbkchjiiaehhpaaWFoot
import Derived.Test.YtbkchjiiaehhpaaWKept
import Derived.Test.YtbkchjiiaehhpaaWShare
import Derived.Test.YtbkchjiiaehhpaaWN
import Derived.Test.YtbkchjiiaehhpaaWFootNe
import Derived.Test.YtbkchjiiaehhpaaWAt
import Derived.Test.YtbkchjiiaehhpaaWEqStruct
import Derived.Test.YtbkchjiiaehhpaaWRepsOne
import Derived.Test.YtbkchjiiaehhpaaWInv
import Derived.Test.YtbkchjiiaehhpaaWInvWords
import Derived.Test.YtbkchjiiaehhpaaWGuard
import Derived.Test.YtbkchjiiaehhpaaWNEv
import Derived.Test.YtbkchjiiaehhpaaWMore
import Derived.Test.YtbkchjiiaehhpaaX0Mem
import Derived.Test.YtbkchjiiaehhpaaX1Pure
import Derived.Test.YtbkchjiiaehhpaaXShaL
import Derived.Deep.DeepCutAuto
namespace Go.Proofs.Ytbkchjiiaehhpaa.Obj
open Go.RowKit Go.Proofs.YtbkchjiiaehhpaaW.PrintWords Go.Proofs.YtbkchjiiaehhpaaW.PrintLast Go.Proofs.YtbkchjiiaehhpaaW.PrintMore
set_option linter.unusedVariables false
set_option linter.unusedSimpArgs false
def wm.T9 : Bool × List (List Nat × List Nat) := (true, [([], []), ([], []), ([1], [1]), ([2], [2]), ([3], [3]), ([], []), ([5], [5]), ([6], [6]), ([7], [7]), ([8], [8]), ([], []), ([10], [10]), ([11], [11]), ([12], [12]), ([13], [13]), ([4, 9, 14], [4, 9, 14]), ([], []), ([], []), ([16, 17], [16, 17]), ([15, 18], [15, 18]), ([0, 0, 1, 2, 3, 4, 5, 6, 7, 8, 9, 10, 11, 12, 13, 14, 15, 16, 17, 18, 19], [0]), ([20, 0, 1, 2, 3, 4, 5, 6, 7, 8, 9, 10, 11, 12, 13, 14, 15, 16, 17, 18, 19], [20]), ([21, 19, 19, 0, 1, 2, 3, 4, 5, 6, 7, 8, 9, 10, 11, 12, 13, 14, 15, 16, 17, 18, 19], [19, 21])])
def wm.B9 : List Nat := [0, 0, 2, 6, 14, 0, 32, 96, 224, 480, 0, 1024, 3072, 7168, 15360, 32766, 0, 0, 196608, 524286, 1048575, 2097151, 4194303]
theorem wm.tab9 : rtab .any (opsOf Try.f19 9) = wm.T9 := by kernel_rfl
theorem wm.bits9 : waitsOk wm.T9.2 wm.B9 = true := by kernel_rfl
open Go.Proofs.Ytbkchjiiaehhpaa.PShaH
theorem dg_sliceK (A : Option Addr) (c n k : Nat) (hn : k ≤ n) (hc : n ≤ c) : ∃ A', (∀ W : World, (Instr.slice 22 (.slice A n c) (some (.int .i64 (k : Int))) none none).run Try.prog W = .ok (.slice A' (n - k) (c - k)) W) ∧ ∀ (W : World) (l : List Int), Kd.C (Kd.int .u8) W A n l → Kd.C (Kd.int .u8) W A' (n - k) (l.drop k) := by
  obtain ⟨i0, hi0, _, hsz, _⟩ := info_parts dg_info
  obtain ⟨A', h1, h2⟩ := print_cut_of (P := Try.prog) (Value.int .u8) (0 : Int) 22 5 .i64 Try.underlying22 hi0 hsz A n c k hn
  refine ⟨A', h1, fun W l h => ?_⟩
  exact Kd.C_of_reads (d := (0 : Int)) (h1 := fun _ => rfl) (h2 W l hc (Kd.reads_of_C h))
theorem C_take {W : World} {A : Option Addr} {m : Nat} {xs : List Int} (h : Kd.C (Kd.int .u8) W A m xs) (k : Nat) (hk : k ≤ m) : Kd.C (Kd.int .u8) W A k (xs.take k) := by
  obtain ⟨h1, h2, h3⟩ := Kd.reads_of_C (enc := Value.int .u8) (d := (0 : Int)) (h1 := fun _ => rfl) h
  refine Kd.C_of_reads (d := (0 : Int)) (h1 := fun _ => rfl) ⟨by rw [List.length_take]; omega, by omega, fun h0 => ?_⟩
  obtain ⟨ad, e, hc⟩ := h3 (by omega)
  exact ⟨ad, e, fun j hj => by rw [hc j (by omega)]; simp [List.getD_eq_getElem?_getD, List.getElem?_take, hj]⟩
set_option maxHeartbeats 8000000 in
set_option maxRecDepth 100000 in
theorem sh_write2 (D base : Nat) (v : Value) (s : W8) (left : List Int) (n z m k c : Nat) (A : Option Addr) (xs : List Int) (w : World) (h : Dg w base D v s left n) (hz : left.length = z) (hz0 : 0 < z) (hz1 : z < 64) (hA : ∀ W', KeepBut w W' D none → Kd.C (Kd.int .u8) W' A m xs) (hx : IsB xs) (hxl : IsB left) (hmc : m ≤ c) (hm0 : k ≤ m) (hkm : z + k = 64) (hn : n + m ≤ 1048576) :
    Calls Try.prog 19 #[.pointer (some ⟨D, 0, none⟩), .slice A m c] w fun e w' => ∃ v', e = .returned (.int .i64 0) ∧ Dg w' base D v' (foldN ((m - k) / 64) (xs.drop k) (mixF KT (left ++ xs.take k) s)) ((xs.drop k).drop (64 * ((m - k) / 64))) (n + m) ∧ KeepBut w w' D none ∧ Below base w w' ∧ (∀ j, v'.ownBlock = some j → w.heap.size ≤ j) := by
  have hu := Try.underlying103
  have g10 := (blk_cell h.2.1 10).trans rfl
  have g9 := (blk_cell h.2.1 9).trans rfl
  have f9 := blk_frozen h.2.1 9
  obtain ⟨AL, cL, rfl, hlc, _⟩ := h.2.2.reads
  rw [hz] at h hlc
  have H := Aside0.mk h
  have HA := Aside0.mk hA
  have HX := Aside0.mk hx
  have HM := Aside0.mk hmc
  have HNN := Aside0.mk hn
  have HD := Aside0.mk h.1
  have HBS := Aside0.mk (Nat.le_trans h.1 (Nat.le_of_lt (blk_lt h.2.1)))
  have HZ := Aside0.mk (And.intro hz (And.intro hz0 hz1))
  have HLC := Aside0.mk hlc
  have HKM := Aside0.mk (And.intro hm0 hkm)
  have I1 : Aside0 ((Try.prog.info? 38).map (·.size) = some 64) := ⟨by kernel_rfl⟩
  have hnm : ¬ (1048576 - (n : Int) < (m : Int)) := by omega
  have j0 : (0 : Int) < (z : Int) := by omega
  have j1 : (64 - (z : Int)) = (k : Int) := by omega
  have j5 : (k : Int) ≤ (m : Int) := by omega
  have j6 : (k : Int) ≤ (c : Int) := by omega
  have hif : (if k < m then (k : Int) else (m : Int)) = (k : Int) := by split <;> omega
  have j2 : (z : Int) ≤ (cL : Int) := by omega
  have j3 : (m : Int) ≤ (c : Int) := by omega
  clear h hA hx hmc hz hz0 hz1 hkm hm0 hlc
  go_enter Try.func19, Try.ntmps19
  go_upto_region 9 with (first
    | (go_at_call 58; (with_reducible refine (sh_none D _ g10).mono ?_); rintro e w ⟨rfl, rfl⟩)
    | (go_at_call 59; (with_reducible refine (sh_table _).mono ?_); rintro e w1 ⟨rfl, hb⟩; have hd1 := H.out.set9 (n + m); rw [Int.natCast_add] at hd1; have HD1 := Aside0.mk (hd1.below hb); have HK1 := Aside0.mk (dg_keep_below (dg_keep_set (KeepBut.refl w D none)) hb); have HB1 := Aside0.mk (dg_below ((Below.refl base w).setCell (p := ⟨D, 9, none⟩) HD.out _) HBS.out hb); have r8 := (dg_cell HD1.out 8).trans rfl; obtain ⟨R, hR⟩ : ∃ R, row64 KT = R := ⟨_, rfl⟩; have HR := Aside0.mk hR; have HS := Aside0.mk (show R.size = 64 by rw [← hR, row_size KT (by decide)]); have HO := Aside0.mk (show R.all (·.oneCell') = true by rw [← hR]; exact row_one _); rw [hR]; clear hR hd1 hb g10 g9 f9 hnm)
    | ((with_reducible refine gate_store (t := 38) (p := 5) (v := .tmp 28) rfl ?_); refine x_arrStore rfl 38 (.tmp 5) (.tmp 28) rfl w1.heap.size (row64 []) R rfl rfl (heap_alloc_new _ _) (by rw [HS.out]; exact I1.out) (by rw [HS.out, row_size [] (by simp)]) HO.out ?_; intro W2 hh2 hg2; have GH := Aside0.mk hh2; have HB2 := Aside0.mk (arr_below hg2); clear hh2 hg2; have HD2 := Aside0.mk (HD1.out.below HB2.out); clear r8; have r8 := (dg_cell HD2.out 8).trans rfl))
  try rw [hif]
  clear hif
  obtain ⟨TB, hTB⟩ : ∃ B, w1.heap.size = B := ⟨_, rfl⟩
  have HTB : Aside0 (W2.heap[TB]? = some (.cells (row64 KT) 38 (0, 0))) := ⟨by have g := GH.out; rw [← HR.out, hTB] at g; exact g⟩
  have HK2 := Aside0.mk (dg_keep_below HK1.out HB2.out)
  have HB3 := Aside0.mk (dg_below HB1.out HBS.out HB2.out)
  have HDT : Aside0 (D < TB) := ⟨by rw [← hTB]; exact blk_lt HD1.out.2.1⟩
  rw [hTB]
  clear HB1 HK1 HD1 HB2 GH HR HS HO hTB r8
  have CD : Aside0 (∀ W, Below W2.heap.size W2 W → Dg W base D (.slice AL z cL) s left (n + m)) := ⟨fun W hb => HD2.out.below hb⟩
  have CL : Aside0 (∀ W, Below W2.heap.size W2 W → Kd.C (Kd.int .u8) W AL z left) := ⟨fun W hb => by
    obtain ⟨A', c', he, _, hC⟩ := (HD2.out.below hb).2.2.reads
    rw [HZ.out.1] at he hC
    injection he with he _ _
    subst he
    exact hC⟩
  have CA : Aside0 (∀ W, Below W2.heap.size W2 W → Kd.C (Kd.int .u8) W A k (xs.take k)) := ⟨fun W hb => C_take (HA.out W (dg_keep_below HK2.out hb)) k HKM.out.1⟩
  have HBW := Aside0.mk (Below.refl W2.heap.size W2)
  have hd2 := CD.out _ HBW.out
  have q8 := (dg_cell hd2 8).trans rfl
  have q8d : W2.drew.cell? ⟨D, 8, none⟩ = some (.slice AL z cL) := q8
  clear hd2
  go_cut [63] (fun s63 wx => ∃ A6 c6, s63 = .slice A6 64 c6 ∧ Aside0 (64 ≤ c6) ∧ Aside0 (Dg wx base D (.slice A6 64 c6) s (left ++ xs.take k) (n + m)) ∧ Aside0 (KeepBut w wx D none) ∧ Aside0 (Below base w wx) ∧ Aside0 (wx.heap[TB]? = some (.cells (row64 KT) 38 (0, 0))))
  case first =>
    refine start_ (n := 23) (S := fun w' => True) (ds := []) #[false, false, false, false, false, false, false, false, false, false, false, false, false, false, false, false, false, false, false, false, false, false, false] (by kernel_rfl) rfl rfl trivial (fun hHeld => ?_); refine with_tabW wm.tab9 wm.bits9 (fun HT_ HW_ => ?_)
    refine take_ (i := 0) (N := (some 44)) (v := ?_) (a' := ?_) #[true, false, false, false, false, false, false, false, false, false, false, false, false, false, false, false, false, false, false, false, false, false, false] rfl rfl (take_ofW HT_.out HW_.out (by kernel_rfl)) (fun _ _ _ h => h) (Or.inl ⟨by rfl, ?_⟩) hHeld ?_ ?_
    rotate_left
    · rintro w' _
      go_simp
      with_reducible rfl
    rotate_left
    · simp only [Act.put, List.setIfInBounds_toArray, List.set_cons_zero, List.set_cons_succ, i64_w, i32_w]
      rfl
    refine take_ (i := 1) (N := (some 45)) (v := ?_) (a' := ?_) #[true, true, false, false, false, false, false, false, false, false, false, false, false, false, false, false, false, false, false, false, false, false, false] rfl rfl (take_ofW HT_.out HW_.out (by kernel_rfl)) (fun _ _ _ h => h) (Or.inl ⟨by rfl, ?_⟩) hHeld ?_ ?_
    rotate_left
    · rintro w' _
      go_simp
      with_reducible rfl
    rotate_left
    · simp only [Act.put, List.setIfInBounds_toArray, List.set_cons_zero, List.set_cons_succ, i64_w, i32_w]
      rfl
    refine take_ (i := 2) (N := (some 46)) (v := ?_) (a' := ?_) #[true, true, true, false, false, false, false, false, false, false, false, false, false, false, false, false, false, false, false, false, false, false, false] rfl rfl (take_ofW HT_.out HW_.out (by kernel_rfl)) (fun _ _ _ h => h) (Or.inl ⟨by rfl, ?_⟩) hHeld ?_ ?_
    rotate_left
    · rintro w' _
      go_simp
      with_reducible rfl
    rotate_left
    · simp only [Act.put, List.setIfInBounds_toArray, List.set_cons_zero, List.set_cons_succ, i64_w, i32_w]
      rfl
    refine take_ (i := 3) (N := (some 47)) (v := ?_) (a' := ?_) #[true, true, true, true, false, false, false, false, false, false, false, false, false, false, false, false, false, false, false, false, false, false, false] rfl rfl (take_ofW HT_.out HW_.out (by kernel_rfl)) (fun _ _ _ h => h) (Or.inl ⟨by rfl, ?_⟩) hHeld ?_ ?_
    rotate_left
    · rintro w' _
      go_simp
      with_reducible rfl
    rotate_left
    · simp only [Act.put, List.setIfInBounds_toArray, List.set_cons_zero, List.set_cons_succ, i64_w, i32_w]
      rfl
    refine take_ (i := 5) (N := (some 49)) (v := ?_) (a' := ?_) #[true, true, true, true, false, true, false, false, false, false, false, false, false, false, false, false, false, false, false, false, false, false, false] rfl rfl (take_ofW HT_.out HW_.out (by kernel_rfl)) (fun _ _ _ h => h) (Or.inl ⟨by rfl, ?_⟩) hHeld ?_ ?_
    rotate_left
    · rintro w' _
      go_simp
      with_reducible rfl
    rotate_left
    · simp only [Act.put, List.setIfInBounds_toArray, List.set_cons_zero, List.set_cons_succ, i64_w, i32_w]
      rfl
    refine take_ (i := 6) (N := (some 50)) (v := ?_) (a' := ?_) #[true, true, true, true, false, true, true, false, false, false, false, false, false, false, false, false, false, false, false, false, false, false, false] rfl rfl (take_ofW HT_.out HW_.out (by kernel_rfl)) (fun _ _ _ h => h) (Or.inl ⟨by rfl, ?_⟩) hHeld ?_ ?_
    rotate_left
    · rintro w' _
      go_simp
      with_reducible rfl
    rotate_left
    · simp only [Act.put, List.setIfInBounds_toArray, List.set_cons_zero, List.set_cons_succ, i64_w, i32_w]
      rfl
    refine take_ (i := 7) (N := (some 51)) (v := ?_) (a' := ?_) #[true, true, true, true, false, true, true, true, false, false, false, false, false, false, false, false, false, false, false, false, false, false, false] rfl rfl (take_ofW HT_.out HW_.out (by kernel_rfl)) (fun _ _ _ h => h) (Or.inl ⟨by rfl, ?_⟩) hHeld ?_ ?_
    rotate_left
    · rintro w' _
      go_simp
      with_reducible rfl
    rotate_left
    · simp only [Act.put, List.setIfInBounds_toArray, List.set_cons_zero, List.set_cons_succ, i64_w, i32_w]
      rfl
    refine take_ (i := 10) (N := (some 54)) (v := ?_) (a' := ?_) #[true, true, true, true, false, true, true, true, false, false, true, false, false, false, false, false, false, false, false, false, false, false, false] rfl rfl (take_ofW HT_.out HW_.out (by kernel_rfl)) (fun _ _ _ h => h) (Or.inl ⟨by rfl, ?_⟩) hHeld ?_ ?_
    rotate_left
    · rintro w' _
      go_simp
      with_reducible rfl
    rotate_left
    · simp only [Act.put, List.setIfInBounds_toArray, List.set_cons_zero, List.set_cons_succ, i64_w, i32_w]
      rfl
    refine take_ (i := 11) (N := (some 55)) (v := ?_) (a' := ?_) #[true, true, true, true, false, true, true, true, false, false, true, true, false, false, false, false, false, false, false, false, false, false, false] rfl rfl (take_ofW HT_.out HW_.out (by kernel_rfl)) (fun _ _ _ h => h) (Or.inl ⟨by rfl, ?_⟩) hHeld ?_ ?_
    rotate_left
    · rintro w' _
      go_simp
      with_reducible rfl
    rotate_left
    · simp only [Act.put, List.setIfInBounds_toArray, List.set_cons_zero, List.set_cons_succ, i64_w, i32_w]
      rfl
    refine take_ (i := 12) (N := (some 56)) (v := ?_) (a' := ?_) #[true, true, true, true, false, true, true, true, false, false, true, true, true, false, false, false, false, false, false, false, false, false, false] rfl rfl (take_ofW HT_.out HW_.out (by kernel_rfl)) (fun _ _ _ h => h) (Or.inl ⟨by rfl, ?_⟩) hHeld ?_ ?_
    rotate_left
    · rintro w' _
      go_simp
      with_reducible rfl
    rotate_left
    · simp only [Act.put, List.setIfInBounds_toArray, List.set_cons_zero, List.set_cons_succ, i64_w, i32_w]
      rfl
    refine take_ (i := 16) (N := (some 60)) (v := ?_) (a' := ?_) #[true, true, true, true, false, true, true, true, false, false, true, true, true, false, false, false, true, false, false, false, false, false, false] rfl rfl (take_ofW HT_.out HW_.out (by kernel_rfl)) (fun _ _ _ h => h) (Or.inl ⟨by rfl, ?_⟩) hHeld ?_ ?_
    rotate_left
    · rintro w' _
      go_simp
      with_reducible rfl
    rotate_left
    · simp only [Act.put, List.setIfInBounds_toArray, List.set_cons_zero, List.set_cons_succ, i64_w, i32_w]
      rfl
    refine take_ (i := 17) (N := (some 61)) (v := ?_) (a' := ?_) #[true, true, true, true, false, true, true, true, false, false, true, true, true, false, false, false, true, true, false, false, false, false, false] rfl rfl (take_ofW HT_.out HW_.out (by kernel_rfl)) (fun _ _ _ h => h) (Or.inl ⟨by rfl, ?_⟩) hHeld ?_ ?_
    rotate_left
    · rintro w' _
      go_simp
      with_reducible rfl
    rotate_left
    · simp only [Act.put, List.setIfInBounds_toArray, List.set_cons_zero, List.set_cons_succ, i64_w, i32_w]
      rfl
    refine take_ (i := 18) (N := (some 62)) (v := ?_) (a' := ?_) #[true, true, true, true, false, true, true, true, false, false, true, true, true, false, false, false, true, true, true, false, false, false, false] rfl rfl (take_ofW HT_.out HW_.out (by kernel_rfl)) (fun _ _ _ h => h) (Or.inl ⟨by rfl, ?_⟩) hHeld ?_ ?_
    rotate_left
    · rintro w' _
      go_simp
      with_reducible rfl
    rotate_left
    · simp only [Act.put, List.setIfInBounds_toArray, List.set_cons_zero, List.set_cons_succ, i64_w, i32_w]
      rfl
    refine three_ (i := 4) (j := 8) (k := 13) (Ni := (some 48)) (Nj := (some 52)) (Nk := (some 57)) #[true, true, true, true, true, true, true, true, false, false, true, true, true, false, false, false, true, true, true, false, false, false, false] #[true, true, true, true, false, true, true, true, true, false, true, true, true, false, false, false, true, true, true, false, false, false, false] #[true, true, true, true, false, true, true, true, false, false, true, true, true, true, false, false, true, true, true, false, false, false, false] rfl rfl rfl rfl rfl rfl (three_of HT_.out (by kernel_rfl)) (by decide) (by decide) (by decide) (fun K hK => ?_)  (fun K hK => ?_)  (fun K hK => ?_)
    · skip
      refine value_ (by rfl) rfl (v := ?_) (w1 := ?_) ?_ ?_
      rotate_left 2
      · (go_simp; first | (with_reducible rfl) | (constructor <;> with_reducible rfl))
      refine hK.out _ _ trivial (fun hHeld => ?_)
      clear hK K
      refine norm_ (a' := ?_) ?_ ?_
      rotate_left
      · show Act.put _ (some 48) _ = _
        simp only [Act.put, List.setIfInBounds_toArray, List.set_cons_zero, List.set_cons_succ, i64_w, i32_w]
        rfl
      refine two_ (i := 8) (j := 13) (Ni := (some 52)) (Nj := (some 57)) #[true, true, true, true, true, true, true, true, true, false, true, true, true, false, false, false, true, true, true, false, false, false, false] #[true, true, true, true, true, true, true, true, false, false, true, true, true, true, false, false, true, true, true, false, false, false, false] rfl rfl rfl rfl (two_of HT_.out (by kernel_rfl)) (by decide) (by decide) (fun K hK => ?_)  (fun K hK => ?_)
      · skip
        refine value_ (by rfl) rfl (v := ?_) (w1 := ?_) ?_ ?_
        rotate_left 2
        · (go_simp; first | (with_reducible rfl) | (constructor <;> with_reducible rfl))
        refine hK.out _ _ trivial (fun hHeld => ?_)
        clear hK K
        refine norm_ (a' := ?_) ?_ ?_
        rotate_left
        · show Act.put _ (some 52) _ = _
          simp only [Act.put, List.setIfInBounds_toArray, List.set_cons_zero, List.set_cons_succ, i64_w, i32_w]
          rfl
        refine take_ (i := 9) (N := (some 53)) (v := ?_) (a' := ?_) #[true, true, true, true, true, true, true, true, true, true, true, true, true, false, false, false, true, true, true, false, false, false, false] rfl rfl (take_ofW HT_.out HW_.out (by kernel_rfl)) (fun _ _ _ h => h) (Or.inl ⟨by rfl, ?_⟩) hHeld ?_ ?_
        rotate_left
        · rintro w' _
          go_simp
          with_reducible rfl
        rotate_left
        · simp only [Act.put, List.setIfInBounds_toArray, List.set_cons_zero, List.set_cons_succ, i64_w, i32_w]
          rfl
        refine one_ (i := 13) (N := (some 57)) #[true, true, true, true, true, true, true, true, true, true, true, true, true, true, false, false, true, true, true, false, false, false, false] rfl rfl (one_of HT_.out (by kernel_rfl)) (by decide) (fun K hK => ?_)
        refine value_ (by rfl) rfl (v := ?_) (w1 := ?_) ?_ ?_
        rotate_left 2
        · (go_simp; first | (with_reducible rfl) | (constructor <;> with_reducible rfl))
        refine hK.out _ _ trivial (fun hHeld => ?_)
        clear hK K
        refine norm_ (a' := ?_) ?_ ?_
        rotate_left
        · show Act.put _ (some 57) _ = _
          simp only [Act.put, List.setIfInBounds_toArray, List.set_cons_zero, List.set_cons_succ, i64_w, i32_w]
          rfl
        refine take_ (i := 14) (N := (some 58)) (v := ?_) (a' := ?_) #[true, true, true, true, true, true, true, true, true, true, true, true, true, true, true, false, true, true, true, false, false, false, false] rfl rfl (take_ofW HT_.out HW_.out (by kernel_rfl)) (fun _ _ _ h => h) (Or.inl ⟨by rfl, ?_⟩) hHeld ?_ ?_
        rotate_left
        · rintro w' _
          go_simp
          with_reducible rfl
        rotate_left
        · simp only [Act.put, List.setIfInBounds_toArray, List.set_cons_zero, List.set_cons_succ, i64_w, i32_w]
          rfl
        refine take_ (i := 15) (N := (some 59)) (v := ?_) (a' := ?_) #[true, true, true, true, true, true, true, true, true, true, true, true, true, true, true, true, true, true, true, false, false, false, false] rfl rfl (take_ofW HT_.out HW_.out (by kernel_rfl)) (fun _ _ _ h => h) (Or.inl ⟨by rfl, ?_⟩) hHeld ?_ ?_
        rotate_left
        · rintro w' _
          go_simp
          with_reducible rfl
        rotate_left
        · simp only [Act.put, List.setIfInBounds_toArray, List.set_cons_zero, List.set_cons_succ, i64_w, i32_w]
          rfl
        refine one_ (i := 19) (N := (some 63)) #[true, true, true, true, true, true, true, true, true, true, true, true, true, true, true, true, true, true, true, true, false, false, false] rfl rfl (one_of HT_.out (by kernel_rfl)) (by decide) (fun K hK => ?_)
        refine step_grow .u8 (by rfl) 63 rfl (.tmp 59) (.tmp 62) 22 5 1 rfl Try.underlying22 dg_info AL z left A k c (xs.take k) rfl rfl (CL.out _ (by repeat (first | exact HBW.out | apply below_drew | apply below_alloc | apply pw_below_drewN))) (CA.out _ (by repeat (first | exact HBW.out | apply below_drew | apply below_alloc | apply pw_below_drewN))) HZ.out.2.1 (by have q_ := HKM.out; have q2_ := HZ.out; omega) (by have q_ := HKM.out; omega) (by have q_ := HKM.out; simp only [maxLen]; omega) (fun v1 w3 ho1 hb1 => ?_)
        obtain ⟨A6, c6, rfl⟩ := Kd.R_slice ho1
        have hl_ : (left ++ xs.take k).length = 64 := by rw [List.length_append, HZ.out.1, (CA.out _ HBW.out).1, HKM.out.2]
        have HO := Aside0.mk ho1
        have HBn := Aside0.mk (below_step (by exact (by repeat (first | exact HBW.out | apply below_drew | apply below_alloc | apply pw_below_drewN))) hb1)
        clear ho1 hb1 HBW
        have HBW := HBn
        clear HBn
        have hd3 := CD.out _ HBW.out
        have q8n := (dg_cell hd3 8).trans rfl
        have f8n := dg_free hd3 8
        clear hd3
        refine hK.out _ _ trivial (fun hHeld => ?_)
        clear hK K
        refine norm_ (a' := ?_) ?_ ?_
        rotate_left
        · show Act.put _ (some 63) _ = _
          simp only [Act.put, List.setIfInBounds_toArray, List.set_cons_zero, List.set_cons_succ, i64_w, i32_w]
          rfl
        refine take_ (i := 20) (N := (some 64)) (v := ?_) (a' := ?_) #[true, true, true, true, true, true, true, true, true, true, true, true, true, true, true, true, true, true, true, true, true, false, false] rfl rfl (take_ofW HT_.out HW_.out (by kernel_rfl)) (fun _ _ _ h => h) (Or.inl ⟨by rfl, ?_⟩) hHeld ?_ ?_
        rotate_left
        · rintro w' _
          go_simp
          with_reducible rfl
        rotate_left
        · simp only [Act.put, List.setIfInBounds_toArray, List.set_cons_zero, List.set_cons_succ, i64_w, i32_w]
          rfl
        refine take_ (i := 21) (N := (some 65)) (v := ?_) (a' := ?_) #[true, true, true, true, true, true, true, true, true, true, true, true, true, true, true, true, true, true, true, true, true, true, false] rfl rfl (take_ofW HT_.out HW_.out (by kernel_rfl)) (fun _ _ _ h => h) (Or.inl ⟨by rfl, ?_⟩) hHeld ?_ ?_
        rotate_left
        · rintro w' _
          go_simp
          with_reducible rfl
        rotate_left
        · simp only [Act.put, List.setIfInBounds_toArray, List.set_cons_zero, List.set_cons_succ, i64_w, i32_w]
          rfl
        refine one_ (i := 22) (N := none) #[true, true, true, true, true, true, true, true, true, true, true, true, true, true, true, true, true, true, true, true, true, true, true] rfl rfl (one_of HT_.out (by kernel_rfl)) (by decide) (fun K hK => ?_)
        refine skip_ (by rfl) rfl (w1 := ?_) ?_ ?_
        rotate_left 1
        · (go_simp; first | (with_reducible rfl) | trace_state)
        refine hK.out _ _ trivial (fun hHeld => ?_)
        clear hK K
        refine done_ (done_of HT_.out (by kernel_rfl)) ?_
        go_wp2
        go_meet
        have hc6_ : 64 ≤ c6 := by (obtain ⟨_, _, he_, hle_, _⟩ := Kd.R_reads HO.out; injection he_ with _ _ he_; rw [hl_] at hle_; omega)
        exact ⟨A6, c6, by rw [hl_], ⟨hc6_⟩, by rw [← hl_]; exact ⟨dg_left (CD.out _ HBW.out) (Rc.of (Kd.R_lower HO.out (Nat.le_trans HBS.out HB3.out.size)))⟩, ⟨dg_keep_set (dg_keep_below HK2.out HBW.out)⟩, ⟨dg_bset (dg_below HB3.out HBS.out HBW.out) HD.out _ _⟩, ⟨dg_tset (blk_below HTB.out HBW.out) (by have := HDT.out; omega) _ _⟩⟩
      · skip
        refine value_ (by rfl) rfl (v := ?_) (w1 := ?_) ?_ ?_
        rotate_left 2
        · (go_simp; first | (with_reducible rfl) | (constructor <;> with_reducible rfl))
        refine hK.out _ _ trivial (fun hHeld => ?_)
        clear hK K
        refine norm_ (a' := ?_) ?_ ?_
        rotate_left
        · show Act.put _ (some 57) _ = _
          simp only [Act.put, List.setIfInBounds_toArray, List.set_cons_zero, List.set_cons_succ, i64_w, i32_w]
          rfl
        refine take_ (i := 14) (N := (some 58)) (v := ?_) (a' := ?_) #[true, true, true, true, true, true, true, true, false, false, true, true, true, true, true, false, true, true, true, false, false, false, false] rfl rfl (take_ofW HT_.out HW_.out (by kernel_rfl)) (fun _ _ _ h => h) (Or.inl ⟨by rfl, ?_⟩) hHeld ?_ ?_
        rotate_left
        · rintro w' _
          go_simp
          with_reducible rfl
        rotate_left
        · simp only [Act.put, List.setIfInBounds_toArray, List.set_cons_zero, List.set_cons_succ, i64_w, i32_w]
          rfl
        refine one_ (i := 8) (N := (some 52)) #[true, true, true, true, true, true, true, true, true, false, true, true, true, true, true, false, true, true, true, false, false, false, false] rfl rfl (one_of HT_.out (by kernel_rfl)) (by decide) (fun K hK => ?_)
        refine value_ (by rfl) rfl (v := ?_) (w1 := ?_) ?_ ?_
        rotate_left 2
        · (go_simp; first | (with_reducible rfl) | (constructor <;> with_reducible rfl))
        refine hK.out _ _ trivial (fun hHeld => ?_)
        clear hK K
        refine norm_ (a' := ?_) ?_ ?_
        rotate_left
        · show Act.put _ (some 52) _ = _
          simp only [Act.put, List.setIfInBounds_toArray, List.set_cons_zero, List.set_cons_succ, i64_w, i32_w]
          rfl
        refine take_ (i := 9) (N := (some 53)) (v := ?_) (a' := ?_) #[true, true, true, true, true, true, true, true, true, true, true, true, true, true, true, false, true, true, true, false, false, false, false] rfl rfl (take_ofW HT_.out HW_.out (by kernel_rfl)) (fun _ _ _ h => h) (Or.inl ⟨by rfl, ?_⟩) hHeld ?_ ?_
        rotate_left
        · rintro w' _
          go_simp
          with_reducible rfl
        rotate_left
        · simp only [Act.put, List.setIfInBounds_toArray, List.set_cons_zero, List.set_cons_succ, i64_w, i32_w]
          rfl
        refine take_ (i := 15) (N := (some 59)) (v := ?_) (a' := ?_) #[true, true, true, true, true, true, true, true, true, true, true, true, true, true, true, true, true, true, true, false, false, false, false] rfl rfl (take_ofW HT_.out HW_.out (by kernel_rfl)) (fun _ _ _ h => h) (Or.inl ⟨by rfl, ?_⟩) hHeld ?_ ?_
        rotate_left
        · rintro w' _
          go_simp
          with_reducible rfl
        rotate_left
        · simp only [Act.put, List.setIfInBounds_toArray, List.set_cons_zero, List.set_cons_succ, i64_w, i32_w]
          rfl
        refine one_ (i := 19) (N := (some 63)) #[true, true, true, true, true, true, true, true, true, true, true, true, true, true, true, true, true, true, true, true, false, false, false] rfl rfl (one_of HT_.out (by kernel_rfl)) (by decide) (fun K hK => ?_)
        refine step_grow .u8 (by rfl) 63 rfl (.tmp 59) (.tmp 62) 22 5 1 rfl Try.underlying22 dg_info AL z left A k c (xs.take k) rfl rfl (CL.out _ (by repeat (first | exact HBW.out | apply below_drew | apply below_alloc | apply pw_below_drewN))) (CA.out _ (by repeat (first | exact HBW.out | apply below_drew | apply below_alloc | apply pw_below_drewN))) HZ.out.2.1 (by have q_ := HKM.out; have q2_ := HZ.out; omega) (by have q_ := HKM.out; omega) (by have q_ := HKM.out; simp only [maxLen]; omega) (fun v1 w3 ho1 hb1 => ?_)
        obtain ⟨A6, c6, rfl⟩ := Kd.R_slice ho1
        have hl_ : (left ++ xs.take k).length = 64 := by rw [List.length_append, HZ.out.1, (CA.out _ HBW.out).1, HKM.out.2]
        have HO := Aside0.mk ho1
        have HBn := Aside0.mk (below_step (by exact (by repeat (first | exact HBW.out | apply below_drew | apply below_alloc | apply pw_below_drewN))) hb1)
        clear ho1 hb1 HBW
        have HBW := HBn
        clear HBn
        have hd3 := CD.out _ HBW.out
        have q8n := (dg_cell hd3 8).trans rfl
        have f8n := dg_free hd3 8
        clear hd3
        refine hK.out _ _ trivial (fun hHeld => ?_)
        clear hK K
        refine norm_ (a' := ?_) ?_ ?_
        rotate_left
        · show Act.put _ (some 63) _ = _
          simp only [Act.put, List.setIfInBounds_toArray, List.set_cons_zero, List.set_cons_succ, i64_w, i32_w]
          rfl
        refine take_ (i := 20) (N := (some 64)) (v := ?_) (a' := ?_) #[true, true, true, true, true, true, true, true, true, true, true, true, true, true, true, true, true, true, true, true, true, false, false] rfl rfl (take_ofW HT_.out HW_.out (by kernel_rfl)) (fun _ _ _ h => h) (Or.inl ⟨by rfl, ?_⟩) hHeld ?_ ?_
        rotate_left
        · rintro w' _
          go_simp
          with_reducible rfl
        rotate_left
        · simp only [Act.put, List.setIfInBounds_toArray, List.set_cons_zero, List.set_cons_succ, i64_w, i32_w]
          rfl
        refine take_ (i := 21) (N := (some 65)) (v := ?_) (a' := ?_) #[true, true, true, true, true, true, true, true, true, true, true, true, true, true, true, true, true, true, true, true, true, true, false] rfl rfl (take_ofW HT_.out HW_.out (by kernel_rfl)) (fun _ _ _ h => h) (Or.inl ⟨by rfl, ?_⟩) hHeld ?_ ?_
        rotate_left
        · rintro w' _
          go_simp
          with_reducible rfl
        rotate_left
        · simp only [Act.put, List.setIfInBounds_toArray, List.set_cons_zero, List.set_cons_succ, i64_w, i32_w]
          rfl
        refine one_ (i := 22) (N := none) #[true, true, true, true, true, true, true, true, true, true, true, true, true, true, true, true, true, true, true, true, true, true, true] rfl rfl (one_of HT_.out (by kernel_rfl)) (by decide) (fun K hK => ?_)
        refine skip_ (by rfl) rfl (w1 := ?_) ?_ ?_
        rotate_left 1
        · (go_simp; first | (with_reducible rfl) | trace_state)
        refine hK.out _ _ trivial (fun hHeld => ?_)
        clear hK K
        refine done_ (done_of HT_.out (by kernel_rfl)) ?_
        go_wp2
        go_meet
        have hc6_ : 64 ≤ c6 := by (obtain ⟨_, _, he_, hle_, _⟩ := Kd.R_reads HO.out; injection he_ with _ _ he_; rw [hl_] at hle_; omega)
        exact ⟨A6, c6, by rw [hl_], ⟨hc6_⟩, by rw [← hl_]; exact ⟨dg_left (CD.out _ HBW.out) (Rc.of (Kd.R_lower HO.out (Nat.le_trans HBS.out HB3.out.size)))⟩, ⟨dg_keep_set (dg_keep_below HK2.out HBW.out)⟩, ⟨dg_bset (dg_below HB3.out HBS.out HBW.out) HD.out _ _⟩, ⟨dg_tset (blk_below HTB.out HBW.out) (by have := HDT.out; omega) _ _⟩⟩
    · skip
      refine value_ (by rfl) rfl (v := ?_) (w1 := ?_) ?_ ?_
      rotate_left 2
      · (go_simp; first | (with_reducible rfl) | (constructor <;> with_reducible rfl))
      refine hK.out _ _ trivial (fun hHeld => ?_)
      clear hK K
      refine norm_ (a' := ?_) ?_ ?_
      rotate_left
      · show Act.put _ (some 52) _ = _
        simp only [Act.put, List.setIfInBounds_toArray, List.set_cons_zero, List.set_cons_succ, i64_w, i32_w]
        rfl
      refine take_ (i := 9) (N := (some 53)) (v := ?_) (a' := ?_) #[true, true, true, true, false, true, true, true, true, true, true, true, true, false, false, false, true, true, true, false, false, false, false] rfl rfl (take_ofW HT_.out HW_.out (by kernel_rfl)) (fun _ _ _ h => h) (Or.inl ⟨by rfl, ?_⟩) hHeld ?_ ?_
      rotate_left
      · rintro w' _
        go_simp
        with_reducible rfl
      rotate_left
      · simp only [Act.put, List.setIfInBounds_toArray, List.set_cons_zero, List.set_cons_succ, i64_w, i32_w]
        rfl
      refine two_ (i := 4) (j := 13) (Ni := (some 48)) (Nj := (some 57)) #[true, true, true, true, true, true, true, true, true, true, true, true, true, false, false, false, true, true, true, false, false, false, false] #[true, true, true, true, false, true, true, true, true, true, true, true, true, true, false, false, true, true, true, false, false, false, false] rfl rfl rfl rfl (two_of HT_.out (by kernel_rfl)) (by decide) (by decide) (fun K hK => ?_)  (fun K hK => ?_)
      · skip
        refine value_ (by rfl) rfl (v := ?_) (w1 := ?_) ?_ ?_
        rotate_left 2
        · (go_simp; first | (with_reducible rfl) | (constructor <;> with_reducible rfl))
        refine hK.out _ _ trivial (fun hHeld => ?_)
        clear hK K
        refine norm_ (a' := ?_) ?_ ?_
        rotate_left
        · show Act.put _ (some 48) _ = _
          simp only [Act.put, List.setIfInBounds_toArray, List.set_cons_zero, List.set_cons_succ, i64_w, i32_w]
          rfl
        refine one_ (i := 13) (N := (some 57)) #[true, true, true, true, true, true, true, true, true, true, true, true, true, true, false, false, true, true, true, false, false, false, false] rfl rfl (one_of HT_.out (by kernel_rfl)) (by decide) (fun K hK => ?_)
        refine value_ (by rfl) rfl (v := ?_) (w1 := ?_) ?_ ?_
        rotate_left 2
        · (go_simp; first | (with_reducible rfl) | (constructor <;> with_reducible rfl))
        refine hK.out _ _ trivial (fun hHeld => ?_)
        clear hK K
        refine norm_ (a' := ?_) ?_ ?_
        rotate_left
        · show Act.put _ (some 57) _ = _
          simp only [Act.put, List.setIfInBounds_toArray, List.set_cons_zero, List.set_cons_succ, i64_w, i32_w]
          rfl
        refine take_ (i := 14) (N := (some 58)) (v := ?_) (a' := ?_) #[true, true, true, true, true, true, true, true, true, true, true, true, true, true, true, false, true, true, true, false, false, false, false] rfl rfl (take_ofW HT_.out HW_.out (by kernel_rfl)) (fun _ _ _ h => h) (Or.inl ⟨by rfl, ?_⟩) hHeld ?_ ?_
        rotate_left
        · rintro w' _
          go_simp
          with_reducible rfl
        rotate_left
        · simp only [Act.put, List.setIfInBounds_toArray, List.set_cons_zero, List.set_cons_succ, i64_w, i32_w]
          rfl
        refine take_ (i := 15) (N := (some 59)) (v := ?_) (a' := ?_) #[true, true, true, true, true, true, true, true, true, true, true, true, true, true, true, true, true, true, true, false, false, false, false] rfl rfl (take_ofW HT_.out HW_.out (by kernel_rfl)) (fun _ _ _ h => h) (Or.inl ⟨by rfl, ?_⟩) hHeld ?_ ?_
        rotate_left
        · rintro w' _
          go_simp
          with_reducible rfl
        rotate_left
        · simp only [Act.put, List.setIfInBounds_toArray, List.set_cons_zero, List.set_cons_succ, i64_w, i32_w]
          rfl
        refine one_ (i := 19) (N := (some 63)) #[true, true, true, true, true, true, true, true, true, true, true, true, true, true, true, true, true, true, true, true, false, false, false] rfl rfl (one_of HT_.out (by kernel_rfl)) (by decide) (fun K hK => ?_)
        refine step_grow .u8 (by rfl) 63 rfl (.tmp 59) (.tmp 62) 22 5 1 rfl Try.underlying22 dg_info AL z left A k c (xs.take k) rfl rfl (CL.out _ (by repeat (first | exact HBW.out | apply below_drew | apply below_alloc | apply pw_below_drewN))) (CA.out _ (by repeat (first | exact HBW.out | apply below_drew | apply below_alloc | apply pw_below_drewN))) HZ.out.2.1 (by have q_ := HKM.out; have q2_ := HZ.out; omega) (by have q_ := HKM.out; omega) (by have q_ := HKM.out; simp only [maxLen]; omega) (fun v1 w3 ho1 hb1 => ?_)
        obtain ⟨A6, c6, rfl⟩ := Kd.R_slice ho1
        have hl_ : (left ++ xs.take k).length = 64 := by rw [List.length_append, HZ.out.1, (CA.out _ HBW.out).1, HKM.out.2]
        have HO := Aside0.mk ho1
        have HBn := Aside0.mk (below_step (by exact (by repeat (first | exact HBW.out | apply below_drew | apply below_alloc | apply pw_below_drewN))) hb1)
        clear ho1 hb1 HBW
        have HBW := HBn
        clear HBn
        have hd3 := CD.out _ HBW.out
        have q8n := (dg_cell hd3 8).trans rfl
        have f8n := dg_free hd3 8
        clear hd3
        refine hK.out _ _ trivial (fun hHeld => ?_)
        clear hK K
        refine norm_ (a' := ?_) ?_ ?_
        rotate_left
        · show Act.put _ (some 63) _ = _
          simp only [Act.put, List.setIfInBounds_toArray, List.set_cons_zero, List.set_cons_succ, i64_w, i32_w]
          rfl
        refine take_ (i := 20) (N := (some 64)) (v := ?_) (a' := ?_) #[true, true, true, true, true, true, true, true, true, true, true, true, true, true, true, true, true, true, true, true, true, false, false] rfl rfl (take_ofW HT_.out HW_.out (by kernel_rfl)) (fun _ _ _ h => h) (Or.inl ⟨by rfl, ?_⟩) hHeld ?_ ?_
        rotate_left
        · rintro w' _
          go_simp
          with_reducible rfl
        rotate_left
        · simp only [Act.put, List.setIfInBounds_toArray, List.set_cons_zero, List.set_cons_succ, i64_w, i32_w]
          rfl
        refine take_ (i := 21) (N := (some 65)) (v := ?_) (a' := ?_) #[true, true, true, true, true, true, true, true, true, true, true, true, true, true, true, true, true, true, true, true, true, true, false] rfl rfl (take_ofW HT_.out HW_.out (by kernel_rfl)) (fun _ _ _ h => h) (Or.inl ⟨by rfl, ?_⟩) hHeld ?_ ?_
        rotate_left
        · rintro w' _
          go_simp
          with_reducible rfl
        rotate_left
        · simp only [Act.put, List.setIfInBounds_toArray, List.set_cons_zero, List.set_cons_succ, i64_w, i32_w]
          rfl
        refine one_ (i := 22) (N := none) #[true, true, true, true, true, true, true, true, true, true, true, true, true, true, true, true, true, true, true, true, true, true, true] rfl rfl (one_of HT_.out (by kernel_rfl)) (by decide) (fun K hK => ?_)
        refine skip_ (by rfl) rfl (w1 := ?_) ?_ ?_
        rotate_left 1
        · (go_simp; first | (with_reducible rfl) | trace_state)
        refine hK.out _ _ trivial (fun hHeld => ?_)
        clear hK K
        refine done_ (done_of HT_.out (by kernel_rfl)) ?_
        go_wp2
        go_meet
        have hc6_ : 64 ≤ c6 := by (obtain ⟨_, _, he_, hle_, _⟩ := Kd.R_reads HO.out; injection he_ with _ _ he_; rw [hl_] at hle_; omega)
        exact ⟨A6, c6, by rw [hl_], ⟨hc6_⟩, by rw [← hl_]; exact ⟨dg_left (CD.out _ HBW.out) (Rc.of (Kd.R_lower HO.out (Nat.le_trans HBS.out HB3.out.size)))⟩, ⟨dg_keep_set (dg_keep_below HK2.out HBW.out)⟩, ⟨dg_bset (dg_below HB3.out HBS.out HBW.out) HD.out _ _⟩, ⟨dg_tset (blk_below HTB.out HBW.out) (by have := HDT.out; omega) _ _⟩⟩
      · skip
        refine value_ (by rfl) rfl (v := ?_) (w1 := ?_) ?_ ?_
        rotate_left 2
        · (go_simp; first | (with_reducible rfl) | (constructor <;> with_reducible rfl))
        refine hK.out _ _ trivial (fun hHeld => ?_)
        clear hK K
        refine norm_ (a' := ?_) ?_ ?_
        rotate_left
        · show Act.put _ (some 57) _ = _
          simp only [Act.put, List.setIfInBounds_toArray, List.set_cons_zero, List.set_cons_succ, i64_w, i32_w]
          rfl
        refine take_ (i := 14) (N := (some 58)) (v := ?_) (a' := ?_) #[true, true, true, true, false, true, true, true, true, true, true, true, true, true, true, false, true, true, true, false, false, false, false] rfl rfl (take_ofW HT_.out HW_.out (by kernel_rfl)) (fun _ _ _ h => h) (Or.inl ⟨by rfl, ?_⟩) hHeld ?_ ?_
        rotate_left
        · rintro w' _
          go_simp
          with_reducible rfl
        rotate_left
        · simp only [Act.put, List.setIfInBounds_toArray, List.set_cons_zero, List.set_cons_succ, i64_w, i32_w]
          rfl
        refine one_ (i := 4) (N := (some 48)) #[true, true, true, true, true, true, true, true, true, true, true, true, true, true, true, false, true, true, true, false, false, false, false] rfl rfl (one_of HT_.out (by kernel_rfl)) (by decide) (fun K hK => ?_)
        refine value_ (by rfl) rfl (v := ?_) (w1 := ?_) ?_ ?_
        rotate_left 2
        · (go_simp; first | (with_reducible rfl) | (constructor <;> with_reducible rfl))
        refine hK.out _ _ trivial (fun hHeld => ?_)
        clear hK K
        refine norm_ (a' := ?_) ?_ ?_
        rotate_left
        · show Act.put _ (some 48) _ = _
          simp only [Act.put, List.setIfInBounds_toArray, List.set_cons_zero, List.set_cons_succ, i64_w, i32_w]
          rfl
        refine take_ (i := 15) (N := (some 59)) (v := ?_) (a' := ?_) #[true, true, true, true, true, true, true, true, true, true, true, true, true, true, true, true, true, true, true, false, false, false, false] rfl rfl (take_ofW HT_.out HW_.out (by kernel_rfl)) (fun _ _ _ h => h) (Or.inl ⟨by rfl, ?_⟩) hHeld ?_ ?_
        rotate_left
        · rintro w' _
          go_simp
          with_reducible rfl
        rotate_left
        · simp only [Act.put, List.setIfInBounds_toArray, List.set_cons_zero, List.set_cons_succ, i64_w, i32_w]
          rfl
        refine one_ (i := 19) (N := (some 63)) #[true, true, true, true, true, true, true, true, true, true, true, true, true, true, true, true, true, true, true, true, false, false, false] rfl rfl (one_of HT_.out (by kernel_rfl)) (by decide) (fun K hK => ?_)
        refine step_grow .u8 (by rfl) 63 rfl (.tmp 59) (.tmp 62) 22 5 1 rfl Try.underlying22 dg_info AL z left A k c (xs.take k) rfl rfl (CL.out _ (by repeat (first | exact HBW.out | apply below_drew | apply below_alloc | apply pw_below_drewN))) (CA.out _ (by repeat (first | exact HBW.out | apply below_drew | apply below_alloc | apply pw_below_drewN))) HZ.out.2.1 (by have q_ := HKM.out; have q2_ := HZ.out; omega) (by have q_ := HKM.out; omega) (by have q_ := HKM.out; simp only [maxLen]; omega) (fun v1 w3 ho1 hb1 => ?_)
        obtain ⟨A6, c6, rfl⟩ := Kd.R_slice ho1
        have hl_ : (left ++ xs.take k).length = 64 := by rw [List.length_append, HZ.out.1, (CA.out _ HBW.out).1, HKM.out.2]
        have HO := Aside0.mk ho1
        have HBn := Aside0.mk (below_step (by exact (by repeat (first | exact HBW.out | apply below_drew | apply below_alloc | apply pw_below_drewN))) hb1)
        clear ho1 hb1 HBW
        have HBW := HBn
        clear HBn
        have hd3 := CD.out _ HBW.out
        have q8n := (dg_cell hd3 8).trans rfl
        have f8n := dg_free hd3 8
        clear hd3
        refine hK.out _ _ trivial (fun hHeld => ?_)
        clear hK K
        refine norm_ (a' := ?_) ?_ ?_
        rotate_left
        · show Act.put _ (some 63) _ = _
          simp only [Act.put, List.setIfInBounds_toArray, List.set_cons_zero, List.set_cons_succ, i64_w, i32_w]
          rfl
        refine take_ (i := 20) (N := (some 64)) (v := ?_) (a' := ?_) #[true, true, true, true, true, true, true, true, true, true, true, true, true, true, true, true, true, true, true, true, true, false, false] rfl rfl (take_ofW HT_.out HW_.out (by kernel_rfl)) (fun _ _ _ h => h) (Or.inl ⟨by rfl, ?_⟩) hHeld ?_ ?_
        rotate_left
        · rintro w' _
          go_simp
          with_reducible rfl
        rotate_left
        · simp only [Act.put, List.setIfInBounds_toArray, List.set_cons_zero, List.set_cons_succ, i64_w, i32_w]
          rfl
        refine take_ (i := 21) (N := (some 65)) (v := ?_) (a' := ?_) #[true, true, true, true, true, true, true, true, true, true, true, true, true, true, true, true, true, true, true, true, true, true, false] rfl rfl (take_ofW HT_.out HW_.out (by kernel_rfl)) (fun _ _ _ h => h) (Or.inl ⟨by rfl, ?_⟩) hHeld ?_ ?_
        rotate_left
        · rintro w' _
          go_simp
          with_reducible rfl
        rotate_left
        · simp only [Act.put, List.setIfInBounds_toArray, List.set_cons_zero, List.set_cons_succ, i64_w, i32_w]
          rfl
        refine one_ (i := 22) (N := none) #[true, true, true, true, true, true, true, true, true, true, true, true, true, true, true, true, true, true, true, true, true, true, true] rfl rfl (one_of HT_.out (by kernel_rfl)) (by decide) (fun K hK => ?_)
        refine skip_ (by rfl) rfl (w1 := ?_) ?_ ?_
        rotate_left 1
        · (go_simp; first | (with_reducible rfl) | trace_state)
        refine hK.out _ _ trivial (fun hHeld => ?_)
        clear hK K
        refine done_ (done_of HT_.out (by kernel_rfl)) ?_
        go_wp2
        go_meet
        have hc6_ : 64 ≤ c6 := by (obtain ⟨_, _, he_, hle_, _⟩ := Kd.R_reads HO.out; injection he_ with _ _ he_; rw [hl_] at hle_; omega)
        exact ⟨A6, c6, by rw [hl_], ⟨hc6_⟩, by rw [← hl_]; exact ⟨dg_left (CD.out _ HBW.out) (Rc.of (Kd.R_lower HO.out (Nat.le_trans HBS.out HB3.out.size)))⟩, ⟨dg_keep_set (dg_keep_below HK2.out HBW.out)⟩, ⟨dg_bset (dg_below HB3.out HBS.out HBW.out) HD.out _ _⟩, ⟨dg_tset (blk_below HTB.out HBW.out) (by have := HDT.out; omega) _ _⟩⟩
    · skip
      refine value_ (by rfl) rfl (v := ?_) (w1 := ?_) ?_ ?_
      rotate_left 2
      · (go_simp; first | (with_reducible rfl) | (constructor <;> with_reducible rfl))
      refine hK.out _ _ trivial (fun hHeld => ?_)
      clear hK K
      refine norm_ (a' := ?_) ?_ ?_
      rotate_left
      · show Act.put _ (some 57) _ = _
        simp only [Act.put, List.setIfInBounds_toArray, List.set_cons_zero, List.set_cons_succ, i64_w, i32_w]
        rfl
      refine take_ (i := 14) (N := (some 58)) (v := ?_) (a' := ?_) #[true, true, true, true, false, true, true, true, false, false, true, true, true, true, true, false, true, true, true, false, false, false, false] rfl rfl (take_ofW HT_.out HW_.out (by kernel_rfl)) (fun _ _ _ h => h) (Or.inl ⟨by rfl, ?_⟩) hHeld ?_ ?_
      rotate_left
      · rintro w' _
        go_simp
        with_reducible rfl
      rotate_left
      · simp only [Act.put, List.setIfInBounds_toArray, List.set_cons_zero, List.set_cons_succ, i64_w, i32_w]
        rfl
      refine two_ (i := 4) (j := 8) (Ni := (some 48)) (Nj := (some 52)) #[true, true, true, true, true, true, true, true, false, false, true, true, true, true, true, false, true, true, true, false, false, false, false] #[true, true, true, true, false, true, true, true, true, false, true, true, true, true, true, false, true, true, true, false, false, false, false] rfl rfl rfl rfl (two_of HT_.out (by kernel_rfl)) (by decide) (by decide) (fun K hK => ?_)  (fun K hK => ?_)
      · skip
        refine value_ (by rfl) rfl (v := ?_) (w1 := ?_) ?_ ?_
        rotate_left 2
        · (go_simp; first | (with_reducible rfl) | (constructor <;> with_reducible rfl))
        refine hK.out _ _ trivial (fun hHeld => ?_)
        clear hK K
        refine norm_ (a' := ?_) ?_ ?_
        rotate_left
        · show Act.put _ (some 48) _ = _
          simp only [Act.put, List.setIfInBounds_toArray, List.set_cons_zero, List.set_cons_succ, i64_w, i32_w]
          rfl
        refine one_ (i := 8) (N := (some 52)) #[true, true, true, true, true, true, true, true, true, false, true, true, true, true, true, false, true, true, true, false, false, false, false] rfl rfl (one_of HT_.out (by kernel_rfl)) (by decide) (fun K hK => ?_)
        refine value_ (by rfl) rfl (v := ?_) (w1 := ?_) ?_ ?_
        rotate_left 2
        · (go_simp; first | (with_reducible rfl) | (constructor <;> with_reducible rfl))
        refine hK.out _ _ trivial (fun hHeld => ?_)
        clear hK K
        refine norm_ (a' := ?_) ?_ ?_
        rotate_left
        · show Act.put _ (some 52) _ = _
          simp only [Act.put, List.setIfInBounds_toArray, List.set_cons_zero, List.set_cons_succ, i64_w, i32_w]
          rfl
        refine take_ (i := 9) (N := (some 53)) (v := ?_) (a' := ?_) #[true, true, true, true, true, true, true, true, true, true, true, true, true, true, true, false, true, true, true, false, false, false, false] rfl rfl (take_ofW HT_.out HW_.out (by kernel_rfl)) (fun _ _ _ h => h) (Or.inl ⟨by rfl, ?_⟩) hHeld ?_ ?_
        rotate_left
        · rintro w' _
          go_simp
          with_reducible rfl
        rotate_left
        · simp only [Act.put, List.setIfInBounds_toArray, List.set_cons_zero, List.set_cons_succ, i64_w, i32_w]
          rfl
        refine take_ (i := 15) (N := (some 59)) (v := ?_) (a' := ?_) #[true, true, true, true, true, true, true, true, true, true, true, true, true, true, true, true, true, true, true, false, false, false, false] rfl rfl (take_ofW HT_.out HW_.out (by kernel_rfl)) (fun _ _ _ h => h) (Or.inl ⟨by rfl, ?_⟩) hHeld ?_ ?_
        rotate_left
        · rintro w' _
          go_simp
          with_reducible rfl
        rotate_left
        · simp only [Act.put, List.setIfInBounds_toArray, List.set_cons_zero, List.set_cons_succ, i64_w, i32_w]
          rfl
        refine one_ (i := 19) (N := (some 63)) #[true, true, true, true, true, true, true, true, true, true, true, true, true, true, true, true, true, true, true, true, false, false, false] rfl rfl (one_of HT_.out (by kernel_rfl)) (by decide) (fun K hK => ?_)
        refine step_grow .u8 (by rfl) 63 rfl (.tmp 59) (.tmp 62) 22 5 1 rfl Try.underlying22 dg_info AL z left A k c (xs.take k) rfl rfl (CL.out _ (by repeat (first | exact HBW.out | apply below_drew | apply below_alloc | apply pw_below_drewN))) (CA.out _ (by repeat (first | exact HBW.out | apply below_drew | apply below_alloc | apply pw_below_drewN))) HZ.out.2.1 (by have q_ := HKM.out; have q2_ := HZ.out; omega) (by have q_ := HKM.out; omega) (by have q_ := HKM.out; simp only [maxLen]; omega) (fun v1 w3 ho1 hb1 => ?_)
        obtain ⟨A6, c6, rfl⟩ := Kd.R_slice ho1
        have hl_ : (left ++ xs.take k).length = 64 := by rw [List.length_append, HZ.out.1, (CA.out _ HBW.out).1, HKM.out.2]
        have HO := Aside0.mk ho1
        have HBn := Aside0.mk (below_step (by exact (by repeat (first | exact HBW.out | apply below_drew | apply below_alloc | apply pw_below_drewN))) hb1)
        clear ho1 hb1 HBW
        have HBW := HBn
        clear HBn
        have hd3 := CD.out _ HBW.out
        have q8n := (dg_cell hd3 8).trans rfl
        have f8n := dg_free hd3 8
        clear hd3
        refine hK.out _ _ trivial (fun hHeld => ?_)
        clear hK K
        refine norm_ (a' := ?_) ?_ ?_
        rotate_left
        · show Act.put _ (some 63) _ = _
          simp only [Act.put, List.setIfInBounds_toArray, List.set_cons_zero, List.set_cons_succ, i64_w, i32_w]
          rfl
        refine take_ (i := 20) (N := (some 64)) (v := ?_) (a' := ?_) #[true, true, true, true, true, true, true, true, true, true, true, true, true, true, true, true, true, true, true, true, true, false, false] rfl rfl (take_ofW HT_.out HW_.out (by kernel_rfl)) (fun _ _ _ h => h) (Or.inl ⟨by rfl, ?_⟩) hHeld ?_ ?_
        rotate_left
        · rintro w' _
          go_simp
          with_reducible rfl
        rotate_left
        · simp only [Act.put, List.setIfInBounds_toArray, List.set_cons_zero, List.set_cons_succ, i64_w, i32_w]
          rfl
        refine take_ (i := 21) (N := (some 65)) (v := ?_) (a' := ?_) #[true, true, true, true, true, true, true, true, true, true, true, true, true, true, true, true, true, true, true, true, true, true, false] rfl rfl (take_ofW HT_.out HW_.out (by kernel_rfl)) (fun _ _ _ h => h) (Or.inl ⟨by rfl, ?_⟩) hHeld ?_ ?_
        rotate_left
        · rintro w' _
          go_simp
          with_reducible rfl
        rotate_left
        · simp only [Act.put, List.setIfInBounds_toArray, List.set_cons_zero, List.set_cons_succ, i64_w, i32_w]
          rfl
        refine one_ (i := 22) (N := none) #[true, true, true, true, true, true, true, true, true, true, true, true, true, true, true, true, true, true, true, true, true, true, true] rfl rfl (one_of HT_.out (by kernel_rfl)) (by decide) (fun K hK => ?_)
        refine skip_ (by rfl) rfl (w1 := ?_) ?_ ?_
        rotate_left 1
        · (go_simp; first | (with_reducible rfl) | trace_state)
        refine hK.out _ _ trivial (fun hHeld => ?_)
        clear hK K
        refine done_ (done_of HT_.out (by kernel_rfl)) ?_
        go_wp2
        go_meet
        have hc6_ : 64 ≤ c6 := by (obtain ⟨_, _, he_, hle_, _⟩ := Kd.R_reads HO.out; injection he_ with _ _ he_; rw [hl_] at hle_; omega)
        exact ⟨A6, c6, by rw [hl_], ⟨hc6_⟩, by rw [← hl_]; exact ⟨dg_left (CD.out _ HBW.out) (Rc.of (Kd.R_lower HO.out (Nat.le_trans HBS.out HB3.out.size)))⟩, ⟨dg_keep_set (dg_keep_below HK2.out HBW.out)⟩, ⟨dg_bset (dg_below HB3.out HBS.out HBW.out) HD.out _ _⟩, ⟨dg_tset (blk_below HTB.out HBW.out) (by have := HDT.out; omega) _ _⟩⟩
      · skip
        refine value_ (by rfl) rfl (v := ?_) (w1 := ?_) ?_ ?_
        rotate_left 2
        · (go_simp; first | (with_reducible rfl) | (constructor <;> with_reducible rfl))
        refine hK.out _ _ trivial (fun hHeld => ?_)
        clear hK K
        refine norm_ (a' := ?_) ?_ ?_
        rotate_left
        · show Act.put _ (some 52) _ = _
          simp only [Act.put, List.setIfInBounds_toArray, List.set_cons_zero, List.set_cons_succ, i64_w, i32_w]
          rfl
        refine take_ (i := 9) (N := (some 53)) (v := ?_) (a' := ?_) #[true, true, true, true, false, true, true, true, true, true, true, true, true, true, true, false, true, true, true, false, false, false, false] rfl rfl (take_ofW HT_.out HW_.out (by kernel_rfl)) (fun _ _ _ h => h) (Or.inl ⟨by rfl, ?_⟩) hHeld ?_ ?_
        rotate_left
        · rintro w' _
          go_simp
          with_reducible rfl
        rotate_left
        · simp only [Act.put, List.setIfInBounds_toArray, List.set_cons_zero, List.set_cons_succ, i64_w, i32_w]
          rfl
        refine one_ (i := 4) (N := (some 48)) #[true, true, true, true, true, true, true, true, true, true, true, true, true, true, true, false, true, true, true, false, false, false, false] rfl rfl (one_of HT_.out (by kernel_rfl)) (by decide) (fun K hK => ?_)
        refine value_ (by rfl) rfl (v := ?_) (w1 := ?_) ?_ ?_
        rotate_left 2
        · (go_simp; first | (with_reducible rfl) | (constructor <;> with_reducible rfl))
        refine hK.out _ _ trivial (fun hHeld => ?_)
        clear hK K
        refine norm_ (a' := ?_) ?_ ?_
        rotate_left
        · show Act.put _ (some 48) _ = _
          simp only [Act.put, List.setIfInBounds_toArray, List.set_cons_zero, List.set_cons_succ, i64_w, i32_w]
          rfl
        refine take_ (i := 15) (N := (some 59)) (v := ?_) (a' := ?_) #[true, true, true, true, true, true, true, true, true, true, true, true, true, true, true, true, true, true, true, false, false, false, false] rfl rfl (take_ofW HT_.out HW_.out (by kernel_rfl)) (fun _ _ _ h => h) (Or.inl ⟨by rfl, ?_⟩) hHeld ?_ ?_
        rotate_left
        · rintro w' _
          go_simp
          with_reducible rfl
        rotate_left
        · simp only [Act.put, List.setIfInBounds_toArray, List.set_cons_zero, List.set_cons_succ, i64_w, i32_w]
          rfl
        refine one_ (i := 19) (N := (some 63)) #[true, true, true, true, true, true, true, true, true, true, true, true, true, true, true, true, true, true, true, true, false, false, false] rfl rfl (one_of HT_.out (by kernel_rfl)) (by decide) (fun K hK => ?_)
        refine step_grow .u8 (by rfl) 63 rfl (.tmp 59) (.tmp 62) 22 5 1 rfl Try.underlying22 dg_info AL z left A k c (xs.take k) rfl rfl (CL.out _ (by repeat (first | exact HBW.out | apply below_drew | apply below_alloc | apply pw_below_drewN))) (CA.out _ (by repeat (first | exact HBW.out | apply below_drew | apply below_alloc | apply pw_below_drewN))) HZ.out.2.1 (by have q_ := HKM.out; have q2_ := HZ.out; omega) (by have q_ := HKM.out; omega) (by have q_ := HKM.out; simp only [maxLen]; omega) (fun v1 w3 ho1 hb1 => ?_)
        obtain ⟨A6, c6, rfl⟩ := Kd.R_slice ho1
        have hl_ : (left ++ xs.take k).length = 64 := by rw [List.length_append, HZ.out.1, (CA.out _ HBW.out).1, HKM.out.2]
        have HO := Aside0.mk ho1
        have HBn := Aside0.mk (below_step (by exact (by repeat (first | exact HBW.out | apply below_drew | apply below_alloc | apply pw_below_drewN))) hb1)
        clear ho1 hb1 HBW
        have HBW := HBn
        clear HBn
        have hd3 := CD.out _ HBW.out
        have q8n := (dg_cell hd3 8).trans rfl
        have f8n := dg_free hd3 8
        clear hd3
        refine hK.out _ _ trivial (fun hHeld => ?_)
        clear hK K
        refine norm_ (a' := ?_) ?_ ?_
        rotate_left
        · show Act.put _ (some 63) _ = _
          simp only [Act.put, List.setIfInBounds_toArray, List.set_cons_zero, List.set_cons_succ, i64_w, i32_w]
          rfl
        refine take_ (i := 20) (N := (some 64)) (v := ?_) (a' := ?_) #[true, true, true, true, true, true, true, true, true, true, true, true, true, true, true, true, true, true, true, true, true, false, false] rfl rfl (take_ofW HT_.out HW_.out (by kernel_rfl)) (fun _ _ _ h => h) (Or.inl ⟨by rfl, ?_⟩) hHeld ?_ ?_
        rotate_left
        · rintro w' _
          go_simp
          with_reducible rfl
        rotate_left
        · simp only [Act.put, List.setIfInBounds_toArray, List.set_cons_zero, List.set_cons_succ, i64_w, i32_w]
          rfl
        refine take_ (i := 21) (N := (some 65)) (v := ?_) (a' := ?_) #[true, true, true, true, true, true, true, true, true, true, true, true, true, true, true, true, true, true, true, true, true, true, false] rfl rfl (take_ofW HT_.out HW_.out (by kernel_rfl)) (fun _ _ _ h => h) (Or.inl ⟨by rfl, ?_⟩) hHeld ?_ ?_
        rotate_left
        · rintro w' _
          go_simp
          with_reducible rfl
        rotate_left
        · simp only [Act.put, List.setIfInBounds_toArray, List.set_cons_zero, List.set_cons_succ, i64_w, i32_w]
          rfl
        refine one_ (i := 22) (N := none) #[true, true, true, true, true, true, true, true, true, true, true, true, true, true, true, true, true, true, true, true, true, true, true] rfl rfl (one_of HT_.out (by kernel_rfl)) (by decide) (fun K hK => ?_)
        refine skip_ (by rfl) rfl (w1 := ?_) ?_ ?_
        rotate_left 1
        · (go_simp; first | (with_reducible rfl) | trace_state)
        refine hK.out _ _ trivial (fun hHeld => ?_)
        clear hK K
        refine done_ (done_of HT_.out (by kernel_rfl)) ?_
        go_wp2
        go_meet
        have hc6_ : 64 ≤ c6 := by (obtain ⟨_, _, he_, hle_, _⟩ := Kd.R_reads HO.out; injection he_ with _ _ he_; rw [hl_] at hle_; omega)
        exact ⟨A6, c6, by rw [hl_], ⟨hc6_⟩, by rw [← hl_]; exact ⟨dg_left (CD.out _ HBW.out) (Rc.of (Kd.R_lower HO.out (Nat.le_trans HBS.out HB3.out.size)))⟩, ⟨dg_keep_set (dg_keep_below HK2.out HBW.out)⟩, ⟨dg_bset (dg_below HB3.out HBS.out HBW.out) HD.out _ _⟩, ⟨dg_tset (blk_below HTB.out HBW.out) (by have := HDT.out; omega) _ _⟩⟩
  case rest =>
    obtain ⟨A6, c6, rfl, HC6, KD, KK, KB, KT_⟩ := hcut
    obtain ⟨A2, hcutk, hC2⟩ := dg_sliceK A c m k HKM.out.1 HM.out
    have HCUT := Aside0.mk hcutk
    have HC2 := Aside0.mk hC2
    clear hcutk hC2 q8 q8d CD CL CA HBW HTB HK2 HB3 HD2
    have r8 := (dg_cell KD.out 8).trans rfl
    obtain ⟨A7, c7, he7, _, hC7⟩ := KD.out.2.2.reads
    have hl7 : (left ++ xs.take k).length = 64 := by
      injection he7 with _ e _
      exact e.symm
    rw [hl7] at he7 hC7
    injection he7 with e1 e2 e3
    subst e1
    clear e2 e3
    obtain ⟨ad, rfl, hc⟩ := (Kd.reads_of_C (enc := Value.int .u8) (d := (0 : Int)) (h1 := fun _ => rfl) hC7).2.2 (by omega)
    obtain ⟨ys, hys⟩ : ∃ ys, left ++ xs.take k = ys := ⟨_, rfl⟩
    rw [hys] at hc hl7 KD
    have CB : Aside0 (∀ j, j < 64 → ∀ W, Below wc.heap.size wc W → W.cell? (ad.add j) = some (.int .u8 (ys.getD j 0))) := ⟨fun j hj W hb => fl_low (hc j hj) hb⟩
    have CK : Aside0 (∀ j, j < 64 → ∀ W, Below wc.heap.size wc W → W.cell? ((⟨TB, 0, none⟩ : Addr).add j) = some (.int .u32 ((KT.getD j 0).toNat : Int))) := ⟨fun j hj W hb => by rw [Addr.add_mid, Nat.zero_add]; exact fl_low (row_at KT_.out (by simpa [KT] using hj)) hb⟩
    have HYL := Aside0.mk hl7
    have HYB : Aside0 (IsB ys) := ⟨by rw [← hys]; exact IsB.append hxl (HX.out.take _)⟩
    have HYS := Aside0.mk hys
    clear hc hl7 hys hC7
    obtain ⟨sf, hsf⟩ : ∃ sf, mixF KT ys s = sf := ⟨_, rfl⟩
    have HF := Aside0.mk hsf
    clear hsf
    obtain ⟨a, b, cc, d, e, f, g, h⟩ := s
    have d0 := (dg_cell KD.out 0).trans rfl
    have d1 := (dg_cell KD.out 1).trans rfl
    have d2 := (dg_cell KD.out 2).trans rfl
    have d3 := (dg_cell KD.out 3).trans rfl
    have d4 := (dg_cell KD.out 4).trans rfl
    have d5 := (dg_cell KD.out 5).trans rfl
    have d6 := (dg_cell KD.out 6).trans rfl
    have d7 := (dg_cell KD.out 7).trans rfl
    have har := fun W : World => arr_at8 W ad 64 c6 (Nat.le_refl _)
    go_upto_region 13 with ((with_reducible refine gate_dst (N := 68) rfl ?_); refine x_slice rfl 22 5 Try.underlying22 (.tmp 66) (some (.tmp 67)) none none rfl _ _ _ _ rfl rfl rfl rfl (.slice A2 (m - k) (c - k)) HCUT.out ?_; simp only [Act.put, List.setIfInBounds_toArray, List.set_cons_zero, List.set_cons_succ])
    go_cut [1] (fun s1 wx => s1 = .slice A2 (m - k) (c - k) ∧ Aside0 (Dg wx base D (.slice none 0 0) sf [] (n + m)) ∧ Aside0 (KeepBut w wx D none) ∧ Aside0 (Below base w wx) ∧ Aside0 (wx.heap[TB]? = some (.cells (row64 KT) 38 (0, 0))))
    case first =>
      go_region_with (go_at_call 60; (with_reducible refine (sh_mix a b cc d e f g h ⟨TB, 0, none⟩ ad KT ys _ HYB.out HYL.out (fun j hj => CB.out j hj _ (by repeat (first | exact Below.refl _ _ | apply below_drew | apply pw_below_drewN))) (fun j hj => CK.out j hj _ (by repeat (first | exact Below.refl _ _ | apply below_drew | apply pw_below_drewN)))).mono ?_); rintro ee w5 ⟨rfl, hb⟩; have HB5 : Aside0 (Below wc.heap.size wc w5) := ⟨Below.trans (by repeat (first | exact Below.refl wc.heap.size wc | apply below_drew | apply pw_below_drewN)) hb⟩; have KD5 := Aside0.mk (KD.out.below HB5.out); clear hb r8 d0 d1 d2 d3 d4 d5 d6 d7; have d0 := (dg_cell KD5.out 0).trans rfl; have d1 := (dg_cell KD5.out 1).trans rfl; have d2 := (dg_cell KD5.out 2).trans rfl; have d3 := (dg_cell KD5.out 3).trans rfl; have d4 := (dg_cell KD5.out 4).trans rfl; have d5 := (dg_cell KD5.out 5).trans rfl; have d6 := (dg_cell KD5.out 6).trans rfl; have d7 := (dg_cell KD5.out 7).trans rfl; have r8 := (dg_cell KD5.out 8).trans rfl; have f8 := dg_free KD5.out 8; have f0 := dg_free KD5.out 0; have f1 := dg_free KD5.out 1; have f2 := dg_free KD5.out 2; have f3 := dg_free KD5.out 3; have f4 := dg_free KD5.out 4; have f5 := dg_free KD5.out 5; have f6 := dg_free KD5.out 6; have f7 := dg_free KD5.out 7; have hf := HF.out; obtain ⟨s1, hs1⟩ : ∃ s1, mixF KT ys ⟨a, b, cc, d, e, f, g, h⟩ = s1 := ⟨_, rfl⟩; rw [hs1] at hf; rw [hs1]; have HF1 := Aside0.mk hf; clear hf hs1; obtain ⟨a1, b1, c1, d1', e1, f1', g1, h1⟩ := s1; unfold w8A)
      all_goals
        have hk5 := dg_keep_below KK.out HB5.out
        have hb5 := dg_below KB.out HBS.out HB5.out
        have hT5 := blk_below KT_.out HB5.out
        have hne : TB ≠ D := by have := HDT.out; omega
        go_wp2
        go_meet
        refine ⟨rfl, ⟨?_⟩, ⟨?_⟩, ⟨?_⟩, ⟨?_⟩⟩
        · rw [← HF1.out]; exact dg_left (dg_set8 KD5.out _ _ _ _ _ _ _ _) (Rc.of (Kd.R_nil _ _ _ _ _))
        · repeat (first | (with_reducible exact hk5) | (with_reducible refine dg_keep_set ?_))
        · repeat (first | (with_reducible exact hb5) | (with_reducible refine dg_bset ?_ HD.out _ _))
        · repeat (first | (with_reducible exact hT5) | (with_reducible refine dg_tset ?_ hne _ _))
    case rest =>
      clear d0 d1 d2 d3 d4 d5 d6 d7 r8 har
      obtain ⟨rfl, KD1, KK1, KB1, KT1⟩ := hcut
      obtain ⟨M, hM⟩ : ∃ M, m - k = M := ⟨_, rfl⟩
      obtain ⟨CC, hCC⟩ : ∃ CC, c - k = CC := ⟨_, rfl⟩
      obtain ⟨XS, hXS⟩ : ∃ XS, xs.drop k = XS := ⟨_, rfl⟩
      have HMC : Aside0 (M ≤ CC) := ⟨by have := HM.out; omega⟩
      have HMM : Aside0 (M ≤ m) := ⟨by omega⟩
      have HXX : Aside0 (IsB XS) := ⟨by rw [← hXS]; exact HX.out.drop _⟩
      have HAX : Aside0 (∀ W', KeepBut w W' D none → Kd.C (Kd.int .u8) W' A2 M XS) := ⟨fun W' hk => by rw [← hM, ← hXS]; exact HC2.out W' xs (HA.out W' hk)⟩
      have HMK := Aside0.mk hM
      have HXK := Aside0.mk hXS
      rw [hM, hCC]
      clear hM hCC hXS KD KK KB KT_ HC2 HCUT CB CK
      have HSF := HF
      clear HF
      go_wp2
      go_loopw [1] (fun v1 wr => ∃ (i : Nat) (A' : Option Addr) (c' : Nat), 64 * i ≤ M ∧ v1 = .slice A' (M - 64 * i) c' ∧ M - 64 * i ≤ c' ∧ Aside0 (∀ W', KeepBut w W' D none → Kd.C (Kd.int .u8) W' A' (M - 64 * i) (XS.drop (64 * i))) ∧ Aside0 (Dg wr base D (.slice none 0 0) (foldN i XS sf) [] (n + m)) ∧ Aside0 (KeepBut w wr D none) ∧ Aside0 (Below base w wr) ∧ Aside0 (wr.heap[TB]? = some (.cells (row64 KT) 38 (0, 0)))) (fun v1 _ => match v1 with | .slice _ len _ => len | _ => 0)
      case atStart => exact ⟨0, A2, CC, by omega, rfl, HMC.out, ⟨fun W' hk => HAX.out W' hk⟩, KD1, KK1, KB1, KT1⟩
      case round =>
        clear KD1 KK1 KB1 KT1
        obtain ⟨i, A', c', him, rfl, hqc, KC, KD, KK, KB, KT_⟩ := hrel
        obtain ⟨q, hq⟩ : ∃ q, M - 64 * i = q := ⟨_, rfl⟩
        rw [hq] at KC hqc
        rw [hq]
        by_cases hlt : 64 ≤ q
        · obtain ⟨ad, rfl, hc⟩ := (Kd.reads_of_C (enc := Value.int .u8) (d := (0 : Int)) (h1 := fun _ => rfl) (KC.out wr KK.out)).2.2 (by omega)
          obtain ⟨ys, hys⟩ : ∃ ys, (XS.drop (64 * i)).take 64 = ys := ⟨_, rfl⟩
          have hyl : ys.length = 64 := by have := (KC.out wr KK.out).1; rw [← hys, List.length_take]; omega
          have hyb : IsB ys := by rw [← hys]; exact (HXX.out.drop _).take _
          have hyc : ∀ j, j < 64 → wr.cell? (ad.add j) = some (.int .u8 (ys.getD j 0)) := fun j hj => by
            have := hc j (by omega)
            rw [this, ← hys]
            simp [List.getD_eq_getElem?_getD, List.getElem?_take, hj]
          have CB : Aside0 (∀ j, j < 64 → ∀ W, Below wr.heap.size wr W → W.cell? (ad.add j) = some (.int .u8 (ys.getD j 0))) := ⟨fun j hj W hb => fl_low (hyc j hj) hb⟩
          have CK : Aside0 (∀ j, j < 64 → ∀ W, Below wr.heap.size wr W → W.cell? ((⟨TB, 0, none⟩ : Addr).add j) = some (.int .u32 ((KT.getD j 0).toNat : Int))) := ⟨fun j hj W hb => by rw [Addr.add_mid, Nat.zero_add]; exact fl_low (row_at KT_.out (by simpa [KT] using hj)) hb⟩
          have HYL := Aside0.mk hyl
          have HYB := Aside0.mk hyb
          have hfold : foldN (i + 1) XS sf = mixF KT ys (foldN i XS sf) := by rw [foldN_succ, hys]
          obtain ⟨s0, hs0⟩ : ∃ s0, foldN i XS sf = s0 := ⟨_, rfl⟩
          rw [hs0] at hfold KD
          have HF := Aside0.mk hfold
          obtain ⟨a, b, cc, d, e, f, g, h⟩ := s0
          have d0 := (dg_cell KD.out 0).trans rfl
          have d1 := (dg_cell KD.out 1).trans rfl
          have d2 := (dg_cell KD.out 2).trans rfl
          have d3 := (dg_cell KD.out 3).trans rfl
          have d4 := (dg_cell KD.out 4).trans rfl
          have d5 := (dg_cell KD.out 5).trans rfl
          have d6 := (dg_cell KD.out 6).trans rfl
          have d7 := (dg_cell KD.out 7).trans rfl
          obtain ⟨A2, hcut, hC2⟩ := dg_slice (some ad) c' q hlt hqc
          have HCUT := Aside0.mk hcut
          have HC2 := Aside0.mk hC2
          have HQ := Aside0.mk hq
          clear hcut hC2 hc hys hyl hyb hyc hfold hs0 hq
          have har := fun W : World => arr_at8 W ad q c' hlt
          go_wp2
          go_region_with (go_at_call 60; (with_reducible refine (sh_mix a b cc d e f g h ⟨TB, 0, none⟩ ad KT ys _ HYB.out HYL.out (fun j hj => CB.out j hj _ (by repeat (first | exact Below.refl _ _ | apply below_drew | apply pw_below_drewN))) (fun j hj => CK.out j hj _ (by repeat (first | exact Below.refl _ _ | apply below_drew | apply pw_below_drewN)))).mono ?_); rintro ee w5 ⟨rfl, hb⟩; have HB5 : Aside0 (Below wr.heap.size wr w5) := ⟨Below.trans (by repeat (first | exact Below.refl wr.heap.size wr | apply below_drew | apply pw_below_drewN)) hb⟩; have KD5 := Aside0.mk (KD.out.below HB5.out); clear hb d0 d1 d2 d3 d4 d5 d6 d7; have d0 := (dg_cell KD5.out 0).trans rfl; have d1 := (dg_cell KD5.out 1).trans rfl; have d2 := (dg_cell KD5.out 2).trans rfl; have d3 := (dg_cell KD5.out 3).trans rfl; have d4 := (dg_cell KD5.out 4).trans rfl; have d5 := (dg_cell KD5.out 5).trans rfl; have d6 := (dg_cell KD5.out 6).trans rfl; have d7 := (dg_cell KD5.out 7).trans rfl; have f0 := dg_free KD5.out 0; have f1 := dg_free KD5.out 1; have f2 := dg_free KD5.out 2; have f3 := dg_free KD5.out 3; have f4 := dg_free KD5.out 4; have f5 := dg_free KD5.out 5; have f6 := dg_free KD5.out 6; have f7 := dg_free KD5.out 7; have hf := HF.out; obtain ⟨s1, hs1⟩ : ∃ s1, mixF KT ys ⟨a, b, cc, d, e, f, g, h⟩ = s1 := ⟨_, rfl⟩; rw [hs1] at hf; rw [hs1]; have HF1 := Aside0.mk hf; clear hf hs1; obtain ⟨a1, b1, c1, d1', e1, f1', g1, h1⟩ := s1; unfold w8A)
          all_goals
            go_wp2_with ((with_reducible refine gate_dst (N := 95) rfl ?_); refine x_slice rfl 22 5 Try.underlying22 (.tmp 94) (some (.const (.int .i64 64))) none none rfl _ _ _ _ rfl rfl rfl rfl (.slice A2 (q - 64) (c' - 64)) HCUT.out ?_; simp only [Act.put, List.setIfInBounds_toArray, List.set_cons_zero, List.set_cons_succ])
            have hk5 := dg_keep_below KK.out HB5.out
            have hb5 := dg_below KB.out HBS.out HB5.out
            have hT5 := blk_below KT_.out HB5.out
            have hne : TB ≠ D := by have := HDT.out; omega
            go_roundw
            case rel =>
              refine ⟨i + 1, A2, c' - 64, by have := HQ.out; omega, by rw [show M - 64 * (i + 1) = q - 64 by have := HQ.out; omega], by have := HQ.out; omega, ⟨fun W' hk => ?_⟩, ⟨by rw [HF1.out]; exact dg_set8 KD5.out _ _ _ _ _ _ _ _⟩, ⟨by repeat (first | (with_reducible exact hk5) | (with_reducible refine dg_keep_set ?_))⟩, ⟨by repeat (first | (with_reducible exact hb5) | (with_reducible refine dg_bset ?_ HD.out _ _))⟩, ⟨by repeat (first | (with_reducible exact hT5) | (with_reducible refine dg_tset ?_ hne _ _))⟩⟩
              have q2 := HC2.out W' _ (KC.out W' hk)
              rw [List.drop_drop, show 64 * i + 64 = 64 * (i + 1) by omega] at q2
              rw [show M - 64 * (i + 1) = q - 64 by have := HQ.out; omega]
              exact q2
            case measure => simp; omega
        · have hi : i = M / 64 := by omega
          have r8 := (dg_cell KD.out 8).trans rfl
          have f8 := dg_free KD.out 8
          have HC3 := KC.out wr KK.out
          obtain ⟨zs, hzs⟩ : ∃ zs, XS.drop (64 * i) = zs := ⟨_, rfl⟩
          rw [hzs] at HC3
          have hzl := HC3.1
          have hqm : q ≤ M := by omega
          have HQM := Aside0.mk hqm
          have HC3 := Aside0.mk HC3
          have HZL := Aside0.mk hzl
          have HI := Aside0.mk hi
          have HZS := Aside0.mk hzs
          clear hi hzs hzl hqm
          go_wp2_with ((with_reducible refine gate_dst (N := 108) rfl ?_); (refine x_append .u8 wr.heap.size rfl (.const (.slice none 0 0)) (.tmp 107) 22 5 1 rfl Try.underlying22 dg_info (by decide) (.slice none 0 0) [] zs A' q c' rfl rfl (Kd.R_nil _ _ _ _ _) HC3.out (Below.refl _ wr) (Nat.le_refl _) (by simp; have h1 := HQM.out; have h2 := HNN.out; have h3 := HMM.out; omega) ?_); intro v2 W3 ho2 hb2 hg2 hn2; rw [List.nil_append] at ho2; have KD4 := Aside0.mk (KD.out.below hb2); obtain ⟨A6, c6, rfl⟩ := Kd.R_slice ho2; have HO2 := Aside0.mk ho2; have HB4 := Aside0.mk hb2; clear ho2 hb2 hg2 hn2 r8 f8; have r8 := (dg_cell KD4.out 8).trans rfl; have f8 := dg_free KD4.out 8)
          go_ret
          have hbase := Nat.le_trans HBS.out KB.out.size
          have hd := dg_left KD4.out (Rc.of (Kd.R_lower HO2.out hbase))
          first
            | refine ⟨.slice A6 zs.length c6, rfl, ?_, dg_keep_set (dg_keep_below KK.out HB4.out), dg_bset (dg_below KB.out HBS.out HB4.out) HD.out _ _, fun j hj => Nat.le_trans KK.out.1 (Kd.R_base HO2.out j hj)⟩
            | refine ⟨rfl, .slice A6 zs.length c6, ?_, dg_keep_set (dg_keep_below KK.out HB4.out), dg_bset (dg_below KB.out HBS.out HB4.out) HD.out _ _, fun j hj => Nat.le_trans KK.out.1 (Kd.R_base HO2.out j hj)⟩
          rw [HYS.out, HSF.out, HXK.out, HMK.out, ← HI.out, HZS.out]
          exact hd
end Go.Proofs.Ytbkchjiiaehhpaa.Obj
