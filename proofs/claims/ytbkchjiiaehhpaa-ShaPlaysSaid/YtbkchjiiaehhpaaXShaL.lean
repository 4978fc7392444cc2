/- Contracts of Go functions that the claims of this seat share. -/
import Derived.Test.YtbkchjiiaehhpaaProg
import Derived.Below
import Derived.Deep.Draws
import Derived.Deep.AppendLies
import Derived.Maps.AppendAt
import Derived.OwnWalk
import Derived.Laws.BytesArg
import Derived.Laws.MakeOwn
import Derived.Laws.OwnMore
import Derived.Deep.OwnRows
import Derived.Tactics
import Derived.Lib.ConvBytes
import Derived.Laws.Slices
import Derived.WalkKit
import Derived.KernelRfl
import Derived.RowKit3
import Derived.Deep.LoopGhost
import Derived.Deep.QuietTactic
import Derived.BigQuiet
import Derived.WideLaws
import Derived.Deep.DeepCutAuto
import Derived.Deep.CutBlock
import Derived.Deep.RegionHeld3
import Derived.Laws.Rows
import Derived.Lib.AppendStr
import Derived.ArgAppend
import Derived.Laws.IdiomCopy
import Derived.OrdersHeld
import Derived.Laws.BitsLemmas
import Derived.RowKit
import Derived.Test.YtbkchjiiaehhpaaWWords
import Derived.Test.YtbkchjiiaehhpaaWLast
import Derived.Test.YtbkchjiiaehhpaaWTab
import Derived.Test.YtbkchjiiaehhpaaWFour
import Derived.Test.YtbkchjiiaehhpaaWQPut
import Derived.Test.YtbkchjiiaehhpaaWApart
import Derived.Test.YtbkchjiiaehhpaaWArr
import Derived.Test.YtbkchjiiaehhpaaWZeros
import Derived.Test.YtbkchjiiaehhpaaWFoot
import Derived.Test.YtbkchjiiaehhpaaWKept
import Derived.Test.YtbkchjiiaehhpaaWShare
import Derived.Test.YtbkchjiiaehhpaaWN
import Derived.Test.YtbkchjiiaehhpaaWFootNe
import Derived.Test.YtbkchjiiaehhpaaWAt
import Derived.Test.YtbkchjiiaehhpaaWEqStruct
import Derived.Test.YtbkchjiiaehhpaaWRepsOne
import Derived.Test.YtbkchjiiaehhpaaWInv
import Derived.Test.YtbkchjiiaehhpaaWInvWords
import Derived.Test.YtbkchjiiaehhpaaWGuard
import Derived.Test.YtbkchjiiaehhpaaWNEv
import Derived.Test.YtbkchjiiaehhpaaWMore
import Derived.Test.YtbkchjiiaehhpaaX0Mem
import Derived.Test.YtbkchjiiaehhpaaX1Pure
import Derived.Test.YtbkchjiiaehhpaaXShaE
import Derived.Deep.DeepCutAuto
import Derived.ArgAppend
namespace Go.Proofs.Ytbkchjiiaehhpaa.Obj
open Go.RowKit Go.Proofs.YtbkchjiiaehhpaaW.PrintWords Go.Proofs.YtbkchjiiaehhpaaW.PrintLast Go.Proofs.YtbkchjiiaehhpaaW.PrintMore
set_option linter.unusedVariables false
set_option linter.unusedSimpArgs false
def cp.T3 : Bool × List (List Nat × List Nat) := (true, [([], []), ([0], [0]), ([1], [1]), ([2], [2]), ([], []), ([4], [4]), ([5], [5]), ([6], [6]), ([7], [7]), ([], []), ([9], [9]), ([10], [10]), ([11], [11]), ([3, 8, 12], [3, 8, 12]), ([13], [13]), ([14, 8, 0, 1, 2, 3, 4, 5, 6, 7, 8, 9, 10, 11, 12, 13, 14], [14])])
def cp.B3 : List Nat := [0, 1, 3, 7, 0, 16, 48, 112, 240, 0, 512, 1536, 3584, 8191, 16383, 32767]
theorem cp.tab3 : rtab .any (opsOf Try.f28 3) = cp.T3 := by kernel_rfl
theorem cp.bits3 : waitsOk cp.T3.2 cp.B3 = true := by kernel_rfl
def wn.T9 : Bool × List (List Nat × List Nat) := (true, [([], []), ([], []), ([1], [1]), ([2], [2]), ([3], [3]), ([], []), ([5], [5]), ([6], [6]), ([7], [7]), ([8], [8]), ([], []), ([10], [10]), ([11], [11]), ([12], [12]), ([13], [13]), ([4, 9, 14], [4, 9, 14]), ([], []), ([], []), ([16, 17], [16, 17]), ([15, 18], [15, 18]), ([0, 0, 1, 2, 3, 4, 5, 6, 7, 8, 9, 10, 11, 12, 13, 14, 15, 16, 17, 18, 19], [0]), ([20, 0, 1, 2, 3, 4, 5, 6, 7, 8, 9, 10, 11, 12, 13, 14, 15, 16, 17, 18, 19], [20]), ([21, 19, 19, 0, 1, 2, 3, 4, 5, 6, 7, 8, 9, 10, 11, 12, 13, 14, 15, 16, 17, 18, 19], [19, 21])])
def wn.B9 : List Nat := [0, 0, 2, 6, 14, 0, 32, 96, 224, 480, 0, 1024, 3072, 7168, 15360, 32766, 0, 0, 196608, 524286, 1048575, 2097151, 4194303]
theorem wn.tab9 : rtab .any (opsOf Try.f19 9) = wn.T9 := by kernel_rfl
theorem wn.bits9 : waitsOk wn.T9.2 wn.B9 = true := by kernel_rfl
open Go.Proofs.Ytbkchjiiaehhpaa.PShaH
theorem sh_len (D base : Nat) (v : Value) (s : W8) (left : List Int) (n : Nat) (w : World) (h : Dg w base D v s left n) :
    Calls Try.prog 29 #[.pointer (some ⟨D, 0, none⟩)] w fun e w' => e = .returned (.int .i64 (n : Int)) ∧ w' = w := by
  have hu := Try.underlying103
  have g10 := (dg_cell h 10).trans rfl
  have g9 := (dg_cell h 9).trans rfl
  clear h
  go_enter Try.func29, Try.ntmps29
  go_wp2_with (go_at_call 58; (with_reducible refine (sh_none D _ g10).mono ?_); rintro e w ⟨rfl, rfl⟩)
  go_ret
  exact ⟨rfl, rfl⟩
theorem dg_cells2 {W : World} {base D : Nat} {v : Value} {a b cc d e f g h : BitVec 32} {left : List Int} {n : Nat} (q : Dg W base D v ⟨a, b, cc, d, e, f, g, h⟩ left n) : W.cell? ⟨D, 0, none⟩ = some (.int .u32 (a.toNat : Int)) ∧ W.cell? ⟨D, 1, none⟩ = some (.int .u32 (b.toNat : Int)) ∧ W.cell? ⟨D, 2, none⟩ = some (.int .u32 (cc.toNat : Int)) ∧ W.cell? ⟨D, 3, none⟩ = some (.int .u32 (d.toNat : Int)) ∧ W.cell? ⟨D, 4, none⟩ = some (.int .u32 (e.toNat : Int)) ∧ W.cell? ⟨D, 5, none⟩ = some (.int .u32 (f.toNat : Int)) ∧ W.cell? ⟨D, 6, none⟩ = some (.int .u32 (g.toNat : Int)) ∧ W.cell? ⟨D, 7, none⟩ = some (.int .u32 (h.toNat : Int)) ∧ W.cell? ⟨D, 8, none⟩ = some v ∧ W.cell? ⟨D, 9, none⟩ = some (.int .i64 (n : Int)) :=
  ⟨(dg_cell q 0).trans rfl, (dg_cell q 1).trans rfl, (dg_cell q 2).trans rfl, (dg_cell q 3).trans rfl, (dg_cell q 4).trans rfl, (dg_cell q 5).trans rfl, (dg_cell q 6).trans rfl, (dg_cell q 7).trans rfl, (dg_cell q 8).trans rfl, (dg_cell q 9).trans rfl⟩
set_option maxHeartbeats 8000000 in
set_option maxRecDepth 100000 in
theorem sh_copy (D base : Nat) (v : Value) (s : W8) (left : List Int) (n : Nat) (w : World) (h : Dg w base D v s left n) (hl : left.length < 64) :
    Calls Try.prog 28 #[.pointer (some ⟨D, 0, none⟩)] w fun e w' => ∃ D' v', e = .returned (.pointer (some ⟨D', 0, none⟩)) ∧ Dg w' w.heap.size D' v' s left n ∧ Below w.heap.size w w' := by
  have hu := Try.underlying103
  have g10 := (dg_cell h 10).trans rfl
  obtain ⟨AL, cL, rfl, _, hC⟩ := h.2.2.reads
  have HL := Aside0.mk hl
  obtain ⟨a, b, cc, d, e, f, g, h7⟩ := s
  have CS : Aside0 (∀ W, Below w.heap.size w W → Dg W base D (.slice AL left.length cL) ⟨a, b, cc, d, e, f, g, h7⟩ left n) := ⟨fun W hb => h.below hb⟩
  have HC : Aside0 (∀ W, Below w.heap.size w W → Kd.C (Kd.int .u8) W AL left.length left) := ⟨fun W hb => Kd.C_below hC hb⟩
  have HB := Aside0.mk (Below.refl w.heap.size w)
  clear h hl hC
  go_enter Try.func28, Try.ntmps28
  go_wp2_with (go_at_call 58; (with_reducible refine (sh_none D _ g10).mono ?_); rintro e w ⟨rfl, rfl⟩)
  clear g10
  refine start_ (n := 16) (S := fun w' => w'.cell? ⟨D, 0, none⟩ = some (.int .u32 (a.toNat : Int)) ∧ w'.cell? ⟨D, 1, none⟩ = some (.int .u32 (b.toNat : Int)) ∧ w'.cell? ⟨D, 2, none⟩ = some (.int .u32 (cc.toNat : Int)) ∧ w'.cell? ⟨D, 3, none⟩ = some (.int .u32 (d.toNat : Int)) ∧ w'.cell? ⟨D, 4, none⟩ = some (.int .u32 (e.toNat : Int)) ∧ w'.cell? ⟨D, 5, none⟩ = some (.int .u32 (f.toNat : Int)) ∧ w'.cell? ⟨D, 6, none⟩ = some (.int .u32 (g.toNat : Int)) ∧ w'.cell? ⟨D, 7, none⟩ = some (.int .u32 (h7.toNat : Int)) ∧ w'.cell? ⟨D, 8, none⟩ = some (.slice AL left.length cL) ∧ w'.cell? ⟨D, 9, none⟩ = some (.int .i64 (n : Int))) (ds := []) #[false, false, false, false, false, false, false, false, false, false, false, false, false, false, false, false] (by kernel_rfl) rfl rfl (dg_cells2 (CS.out _ (by repeat (first | exact HB.out | apply below_drew | apply below_alloc | apply pw_below_drewN)))) (fun hHeld => ?_); refine with_tabW cp.tab3 cp.bits3 (fun HT_ HW_ => ?_)
  refine take_ (i := 0) (N := (some 5)) (v := ?_) (a' := ?_) #[true, false, false, false, false, false, false, false, false, false, false, false, false, false, false, false] rfl rfl (take_ofW HT_.out HW_.out (by kernel_rfl)) (fun _ _ _ h => h) (Or.inl ⟨by rfl, ?_⟩) hHeld ?_ ?_
  rotate_left
  · rintro w' ⟨s0_, s1_, s2_, s3_, s4_, s5_, s6_, s7_, s8_, s9_⟩
    go_simp
    with_reducible rfl
  rotate_left
  · simp only [Act.put, List.setIfInBounds_toArray, List.set_cons_zero, List.set_cons_succ, i64_w, i32_w]
    rfl
  refine take_ (i := 1) (N := (some 6)) (v := ?_) (a' := ?_) #[true, true, false, false, false, false, false, false, false, false, false, false, false, false, false, false] rfl rfl (take_ofW HT_.out HW_.out (by kernel_rfl)) (fun _ _ _ h => h) (Or.inl ⟨by rfl, ?_⟩) hHeld ?_ ?_
  rotate_left
  · rintro w' ⟨s0_, s1_, s2_, s3_, s4_, s5_, s6_, s7_, s8_, s9_⟩
    go_simp
    with_reducible rfl
  rotate_left
  · simp only [Act.put, List.setIfInBounds_toArray, List.set_cons_zero, List.set_cons_succ, i64_w, i32_w]
    rfl
  refine take_ (i := 2) (N := (some 7)) (v := ?_) (a' := ?_) #[true, true, true, false, false, false, false, false, false, false, false, false, false, false, false, false] rfl rfl (take_ofW HT_.out HW_.out (by kernel_rfl)) (fun _ _ _ h => h) (Or.inl ⟨by rfl, ?_⟩) hHeld ?_ ?_
  rotate_left
  · rintro w' ⟨s0_, s1_, s2_, s3_, s4_, s5_, s6_, s7_, s8_, s9_⟩
    go_simp
    with_reducible rfl
  rotate_left
  · simp only [Act.put, List.setIfInBounds_toArray, List.set_cons_zero, List.set_cons_succ, i64_w, i32_w]
    rfl
  refine take_ (i := 3) (N := (some 8)) (v := ?_) (a' := ?_) #[true, true, true, true, false, false, false, false, false, false, false, false, false, false, false, false] rfl rfl (take_ofW HT_.out HW_.out (by kernel_rfl)) (fun _ _ _ h => h) (Or.inl ⟨by rfl, ?_⟩) hHeld ?_ ?_
  rotate_left
  · rintro w' ⟨s0_, s1_, s2_, s3_, s4_, s5_, s6_, s7_, s8_, s9_⟩
    go_simp
    with_reducible rfl
  rotate_left
  · simp only [Act.put, List.setIfInBounds_toArray, List.set_cons_zero, List.set_cons_succ, i64_w, i32_w]
    rfl
  refine take_ (i := 4) (N := (some 9)) (v := ?_) (a' := ?_) #[true, true, true, true, true, false, false, false, false, false, false, false, false, false, false, false] rfl rfl (take_ofW HT_.out HW_.out (by kernel_rfl)) (fun _ _ _ h => h) (Or.inl ⟨by rfl, ?_⟩) hHeld ?_ ?_
  rotate_left
  · rintro w' ⟨s0_, s1_, s2_, s3_, s4_, s5_, s6_, s7_, s8_, s9_⟩
    go_simp
    with_reducible rfl
  rotate_left
  · simp only [Act.put, List.setIfInBounds_toArray, List.set_cons_zero, List.set_cons_succ, i64_w, i32_w]
    rfl
  refine take_ (i := 5) (N := (some 10)) (v := ?_) (a' := ?_) #[true, true, true, true, true, true, false, false, false, false, false, false, false, false, false, false] rfl rfl (take_ofW HT_.out HW_.out (by kernel_rfl)) (fun _ _ _ h => h) (Or.inl ⟨by rfl, ?_⟩) hHeld ?_ ?_
  rotate_left
  · rintro w' ⟨s0_, s1_, s2_, s3_, s4_, s5_, s6_, s7_, s8_, s9_⟩
    go_simp
    with_reducible rfl
  rotate_left
  · simp only [Act.put, List.setIfInBounds_toArray, List.set_cons_zero, List.set_cons_succ, i64_w, i32_w]
    rfl
  refine take_ (i := 6) (N := (some 11)) (v := ?_) (a' := ?_) #[true, true, true, true, true, true, true, false, false, false, false, false, false, false, false, false] rfl rfl (take_ofW HT_.out HW_.out (by kernel_rfl)) (fun _ _ _ h => h) (Or.inl ⟨by rfl, ?_⟩) hHeld ?_ ?_
  rotate_left
  · rintro w' ⟨s0_, s1_, s2_, s3_, s4_, s5_, s6_, s7_, s8_, s9_⟩
    go_simp
    with_reducible rfl
  rotate_left
  · simp only [Act.put, List.setIfInBounds_toArray, List.set_cons_zero, List.set_cons_succ, i64_w, i32_w]
    rfl
  refine take_ (i := 7) (N := (some 12)) (v := ?_) (a' := ?_) #[true, true, true, true, true, true, true, true, false, false, false, false, false, false, false, false] rfl rfl (take_ofW HT_.out HW_.out (by kernel_rfl)) (fun _ _ _ h => h) (Or.inl ⟨by rfl, ?_⟩) hHeld ?_ ?_
  rotate_left
  · rintro w' ⟨s0_, s1_, s2_, s3_, s4_, s5_, s6_, s7_, s8_, s9_⟩
    go_simp
    with_reducible rfl
  rotate_left
  · simp only [Act.put, List.setIfInBounds_toArray, List.set_cons_zero, List.set_cons_succ, i64_w, i32_w]
    rfl
  refine take_ (i := 9) (N := (some 14)) (v := ?_) (a' := ?_) #[true, true, true, true, true, true, true, true, false, true, false, false, false, false, false, false] rfl rfl (take_ofW HT_.out HW_.out (by kernel_rfl)) (fun _ _ _ h => h) (Or.inl ⟨by rfl, ?_⟩) hHeld ?_ ?_
  rotate_left
  · rintro w' ⟨s0_, s1_, s2_, s3_, s4_, s5_, s6_, s7_, s8_, s9_⟩
    go_simp
    with_reducible rfl
  rotate_left
  · simp only [Act.put, List.setIfInBounds_toArray, List.set_cons_zero, List.set_cons_succ, i64_w, i32_w]
    rfl
  refine take_ (i := 10) (N := (some 15)) (v := ?_) (a' := ?_) #[true, true, true, true, true, true, true, true, false, true, true, false, false, false, false, false] rfl rfl (take_ofW HT_.out HW_.out (by kernel_rfl)) (fun _ _ _ h => h) (Or.inl ⟨by rfl, ?_⟩) hHeld ?_ ?_
  rotate_left
  · rintro w' ⟨s0_, s1_, s2_, s3_, s4_, s5_, s6_, s7_, s8_, s9_⟩
    go_simp
    with_reducible rfl
  rotate_left
  · simp only [Act.put, List.setIfInBounds_toArray, List.set_cons_zero, List.set_cons_succ, i64_w, i32_w]
    rfl
  refine take_ (i := 11) (N := (some 16)) (v := ?_) (a' := ?_) #[true, true, true, true, true, true, true, true, false, true, true, true, false, false, false, false] rfl rfl (take_ofW HT_.out HW_.out (by kernel_rfl)) (fun _ _ _ h => h) (Or.inl ⟨by rfl, ?_⟩) hHeld ?_ ?_
  rotate_left
  · rintro w' ⟨s0_, s1_, s2_, s3_, s4_, s5_, s6_, s7_, s8_, s9_⟩
    go_simp
    with_reducible rfl
  rotate_left
  · simp only [Act.put, List.setIfInBounds_toArray, List.set_cons_zero, List.set_cons_succ, i64_w, i32_w]
    rfl
  refine take_ (i := 12) (N := (some 17)) (v := ?_) (a' := ?_) #[true, true, true, true, true, true, true, true, false, true, true, true, true, false, false, false] rfl rfl (take_ofW HT_.out HW_.out (by kernel_rfl)) (fun _ _ _ h => h) (Or.inl ⟨by rfl, ?_⟩) hHeld ?_ ?_
  rotate_left
  · rintro w' ⟨s0_, s1_, s2_, s3_, s4_, s5_, s6_, s7_, s8_, s9_⟩
    go_simp
    with_reducible rfl
  rotate_left
  · simp only [Act.put, List.setIfInBounds_toArray, List.set_cons_zero, List.set_cons_succ, i64_w, i32_w]
    rfl
  refine one_ (i := 8) (N := (some 13)) #[true, true, true, true, true, true, true, true, true, true, true, true, true, false, false, false] rfl rfl (one_of HT_.out (by kernel_rfl)) (by decide) (fun K hK => ?_)
  refine Kd.R_append_rows_step (Kd.int .u8) (w0 := w) w.heap.size (by rfl) (.const (.slice none 0 0)) (.tmp 12) 22 5 (.int .u8 0) 1 rfl Try.underlying22 dg_info rfl (by decide) (by decide) (.slice none 0 0) [] left AL left.length cL (fun _ => True) (fun _ => False) rfl rfl (Kd.R_nil _ _ _ _ _) (HC.out _ (by repeat (first | exact HB.out | apply below_drew | apply below_alloc | apply pw_below_drewN))) (fun _ _ h => h) (fun _ h => h.elim) (fun _ _ => trivial) (by repeat (first | exact HB.out | apply below_drew | apply below_alloc | apply pw_below_drewN)) (by exact HB.out.size) (by have q_ := HL.out; simp; omega) ?_
  intro v1 w1 ho1 hb1 hg1 hn1
  obtain ⟨A6, c6, rfl⟩ := Kd.R_slice ho1
  have HO := Aside0.mk ho1
  have HBn := Aside0.mk hb1
  clear ho1 hb1 hg1 hn1 HB
  have HB := HBn
  clear HBn
  refine hK.out _ _ (dg_cells2 (CS.out _ (by repeat (first | exact HB.out | apply below_drew | apply below_alloc | apply pw_below_drewN)))) (fun hHeld => ?_)
  clear hK K
  refine norm_ (a' := ?_) ?_ ?_
  rotate_left
  · show Act.put _ (some 13) _ = _
    simp only [Act.put, List.setIfInBounds_toArray, List.set_cons_zero, List.set_cons_succ, i64_w, i32_w]
    rfl
  refine take_ (i := 13) (N := (some 18)) (v := ?_) (a' := ?_) #[true, true, true, true, true, true, true, true, true, true, true, true, true, true, false, false] rfl rfl (take_ofW HT_.out HW_.out (by kernel_rfl)) (fun _ _ _ h => h) (Or.inl ⟨by rfl, ?_⟩) hHeld ?_ ?_
  rotate_left
  · rintro w' ⟨s0_, s1_, s2_, s3_, s4_, s5_, s6_, s7_, s8_, s9_⟩
    go_simp
    with_reducible rfl
  rotate_left
  · simp only [Act.put, List.setIfInBounds_toArray, List.set_cons_zero, List.set_cons_succ, i64_w, i32_w]
    rfl
  refine one_ (i := 14) (N := (some 19)) #[true, true, true, true, true, true, true, true, true, true, true, true, true, true, true, false] rfl rfl (one_of HT_.out (by kernel_rfl)) (by decide) (fun K hK => ?_)
  refine value_ (by rfl) rfl (v := ?_) (w1 := ?_) ?_ ?_
  rotate_left 2
  · (go_simp; first | (with_reducible rfl) | (constructor <;> with_reducible rfl))
  refine hK.out _ _ (dg_cells2 (CS.out _ (by repeat (first | exact HB.out | apply below_drew | apply below_alloc | apply pw_below_drewN)))) (fun hHeld => ?_)
  clear hK K
  refine norm_ (a' := ?_) ?_ ?_
  rotate_left
  · show Act.put _ (some 19) _ = _
    simp only [Act.put, List.setIfInBounds_toArray, List.set_cons_zero, List.set_cons_succ, i64_w, i32_w]
    rfl
  refine take_ (i := 15) (N := (some 2)) (v := ?_) (a' := ?_) #[true, true, true, true, true, true, true, true, true, true, true, true, true, true, true, true] rfl rfl (take_ofW HT_.out HW_.out (by kernel_rfl)) (fun _ _ _ h => h) (Or.inl ⟨by rfl, ?_⟩) hHeld ?_ ?_
  rotate_left
  · rintro w' ⟨s0_, s1_, s2_, s3_, s4_, s5_, s6_, s7_, s8_, s9_⟩
    go_simp
    with_reducible rfl
  rotate_left
  · simp only [Act.put, List.setIfInBounds_toArray, List.set_cons_zero, List.set_cons_succ, i64_w, i32_w]
    rfl
  refine done_ (done_of HT_.out (by kernel_rfl)) ?_
  go_wp2
  go_ret
  exact ⟨_, _, rfl, ⟨HB.out.size, heap_alloc_new _ _, Rc.of (Kd.R_alloc HO.out _)⟩, HB.out.alloc HB.out.size _⟩
section
variable {P : Program} {ops : Array Oper} {o : Oper} {a : Act} {Q : Exit → Act → World → Prop} {Kc : Act → World → Prop}
/-- an append that must grow (the row is full), as one step of a region that draws: a row of the call's own, whatever was read -/
theorem step_grow (k : IntKind) {W : World} (hw : Region.wanted o (yielded ops a.tmps) = true) (N : Tmp) (hN : o.dst = some N) (s x : Operand) (t e : TypeId) (bytes : Nat)
    (ho : o.op = .call { callee := .builtin .append, args := #[s, x], argTypes := #[t, t] })
    (ht : P.underlying t = some (.slice e)) (hinfo : (P.info? e).map (fun i => (i.zero, i.size, i.bytes)) = some (some (.int k 0), 1, bytes))
    (A : Option Addr) (n : Nat) (xs : List Int) (B : Option Addr) (m c : Nat) (ys : List Int) (hs : a.eval s = .slice A n n) (hx : a.eval x = .slice B m c)
    (hC : (Kd.int k).C W A n xs) (hD : (Kd.int k).C W B m ys) (hn : 0 < n) (hm : 0 < m) (hl : (n + m) * bytes ≤ 140737488355328) (h63 : n + m ≤ maxLen)
    (h : ∀ v1 w1, (Kd.int k).R e w1 W.heap.size (fun _ => True) v1 (xs ++ ys) → Below W.heap.size W w1 → Kc (a.put (some N) v1) w1) :
    if Region.wanted o (yielded ops a.tmps) = true then Oper.wp P o a W Kc Q else Kc (a.put (some N) undef) W := by
  obtain ⟨i, hi, hz, hsz, hby⟩ := info_parts hinfo
  obtain ⟨hlx, _, hrx⟩ := Kd.reads_of_C (enc := Value.int k) (d := (0 : Int)) (h1 := fun _ => rfl) hC
  obtain ⟨hly, _, hry⟩ := Kd.reads_of_C (enc := Value.int k) (d := (0 : Int)) (h1 := fun _ => rfl) hD
  obtain ⟨b, rfl, hb⟩ := hrx hn
  obtain ⟨b', rfl, hb'⟩ := hry hm
  have cells : ∀ (ad : Addr) (l : List Int) (n : Nat), l.length = n → (∀ j, j < n → W.cell? (ad.add j) = some (.int k (l.getD j 0))) → ∀ j u, (l.map (Value.int k))[j]? = some u → W.cell? (ad.add j) = some u := by
    intro ad l n hl hc j u hu
    have hj : j < l.length := by
      have := (List.getElem?_eq_some_iff.1 hu).1
      simpa using this
    rw [hc j (by omega), ← hu, List.getElem?_map, List.getD_eq_getElem?_getD, List.getElem?_eq_getElem hj]
    rfl
  obtain ⟨v1, w1, hr, h1, h2⟩ := run_append_arg_grows (P := P) W t o.type e i (.int k 0) 1 bytes ht hi hz hsz hby rfl (by decide) b n n (xs.map (Value.int k)) (by rw [List.length_map, hlx, Nat.mul_one]) (cells b xs n hlx hb) b' m c (ys.map (Value.int k)) (by rw [List.length_map, hly, Nat.mul_one]) (cells b' ys m hly hb') (by omega) h63 hl
  rw [if_pos hw]
  unfold Oper.wp execOp
  simp only [ho, resolve, invoke, builtin, Sem.run_bind, Sem.run_pure, Result.andThen_ok, List.map_toArray, List.map_cons, List.map_nil, hs, hx, hr]
  show Kc (a.put o.dst _) _
  rw [hN]
  refine h v1 w1 ?_ ?_
  · rw [← List.map_append] at h1
    have := Kd.R_of_own (enc := Value.int k) (h1 := fun _ => rfl) (ok := fun _ => True) (w := w1) (base := W.heap.size) (e := e) (v := v1) (xs := xs ++ ys) (by rw [List.length_append, hlx, hly]; exact h1) (fun _ _ => trivial)
    exact this
  · exact (Below.refl _ W).grown h2 (Nat.le_refl _) (fun k hk => by cases hk)
end
set_option maxHeartbeats 8000000 in
set_option maxRecDepth 100000 in
theorem sh_write1 (D base : Nat) (v : Value) (s : W8) (left : List Int) (n z m k c : Nat) (A : Option Addr) (xs : List Int) (w : World) (h : Dg w base D v s left n) (hz : left.length = z) (hz0 : 0 < z) (hz1 : z < 64) (hA : ∀ W', KeepBut w W' D none → Kd.C (Kd.int .u8) W' A m xs) (hx : IsB xs) (hxl : IsB left) (hmc : m ≤ c) (hm0 : 0 < m) (hkm : z + m < 64) (hn : n + m ≤ 1048576) :
    Calls Try.prog 19 #[.pointer (some ⟨D, 0, none⟩), .slice A m c] w fun e w' => ∃ v', e = .returned (.int .i64 0) ∧ Dg w' base D v' s (left ++ xs) (n + m) ∧ KeepBut w w' D none ∧ Below base w w' ∧ (∀ j, v'.ownBlock = some j → w.heap.size ≤ j) := by
  have hu := Try.underlying103
  have g10 := (blk_cell h.2.1 10).trans rfl
  have g9 := (blk_cell h.2.1 9).trans rfl
  have f9 := blk_frozen h.2.1 9
  obtain ⟨AL, cL, rfl, hlc, _⟩ := h.2.2.reads
  rw [hz] at h hlc
  have H := Aside0.mk h
  have HA := Aside0.mk hA
  have HX := Aside0.mk hx
  have HM := Aside0.mk hmc
  have HNN := Aside0.mk hn
  have HD := Aside0.mk h.1
  have HBS := Aside0.mk (Nat.le_trans h.1 (Nat.le_of_lt (blk_lt h.2.1)))
  have HZ := Aside0.mk (And.intro hz (And.intro hz0 hz1))
  have HLC := Aside0.mk hlc
  have HKM := Aside0.mk (And.intro hm0 hkm)
  have I1 : Aside0 ((Try.prog.info? 38).map (·.size) = some 64) := ⟨by kernel_rfl⟩
  have hnm : ¬ (1048576 - (n : Int) < (m : Int)) := by omega
  have j0 : (0 : Int) < (z : Int) := by omega
  have j1 : (m : Int) ≤ 64 - (z : Int) := by omega
  have j2 : (z : Int) ≤ (cL : Int) := by omega
  have j3 : (m : Int) ≤ (c : Int) := by omega
  clear h hA hx hmc hz hz0 hz1 hkm hm0 hlc
  go_enter Try.func19, Try.ntmps19
  go_upto_region 9 with (first
    | (go_at_call 58; (with_reducible refine (sh_none D _ g10).mono ?_); rintro e w ⟨rfl, rfl⟩)
    | (go_at_call 59; (with_reducible refine (sh_table _).mono ?_); rintro e w1 ⟨rfl, hb⟩; have hd1 := H.out.set9 (n + m); rw [Int.natCast_add] at hd1; have HD1 := Aside0.mk (hd1.below hb); have HK1 := Aside0.mk (dg_keep_below (dg_keep_set (KeepBut.refl w D none)) hb); have HB1 := Aside0.mk (dg_below ((Below.refl base w).setCell (p := ⟨D, 9, none⟩) HD.out _) HBS.out hb); have r8 := (dg_cell HD1.out 8).trans rfl; obtain ⟨R, hR⟩ : ∃ R, row64 KT = R := ⟨_, rfl⟩; have HR := Aside0.mk hR; have HS := Aside0.mk (show R.size = 64 by rw [← hR, row_size KT (by decide)]); have HO := Aside0.mk (show R.all (·.oneCell') = true by rw [← hR]; exact row_one _); rw [hR]; clear hR hd1 hb g10 g9 f9 hnm)
    | ((with_reducible refine gate_store (t := 38) (p := 5) (v := .tmp 28) rfl ?_); refine x_arrStore rfl 38 (.tmp 5) (.tmp 28) rfl w1.heap.size (row64 []) R rfl rfl (heap_alloc_new _ _) (by rw [HS.out]; exact I1.out) (by rw [HS.out, row_size [] (by simp)]) HO.out ?_; intro W2 hh2 hg2; have GH := Aside0.mk hh2; have HB2 := Aside0.mk (arr_below hg2); clear hh2 hg2; have HD2 := Aside0.mk (HD1.out.below HB2.out); clear r8; have r8 := (dg_cell HD2.out 8).trans rfl))
  obtain ⟨TB, hTB⟩ : ∃ B, w1.heap.size = B := ⟨_, rfl⟩
  have HTB : Aside0 (W2.heap[TB]? = some (.cells (row64 KT) 38 (0, 0))) := ⟨by have g := GH.out; rw [← HR.out, hTB] at g; exact g⟩
  have HK2 := Aside0.mk (dg_keep_below HK1.out HB2.out)
  have HB3 := Aside0.mk (dg_below HB1.out HBS.out HB2.out)
  rw [hTB]
  clear HB1 HK1 HD1 HB2 GH HR HS HO hTB r8
  have CD : Aside0 (∀ W, Below W2.heap.size W2 W → Dg W base D (.slice AL z cL) s left (n + m)) := ⟨fun W hb => HD2.out.below hb⟩
  have CL : Aside0 (∀ W, Below W2.heap.size W2 W → Kd.C (Kd.int .u8) W AL z left) := ⟨fun W hb => by
    obtain ⟨A', c', he, _, hC⟩ := (HD2.out.below hb).2.2.reads
    rw [HZ.out.1] at he hC
    injection he with he _ _
    subst he
    exact hC⟩
  have CA : Aside0 (∀ W, Below W2.heap.size W2 W → Kd.C (Kd.int .u8) W A m xs) := ⟨fun W hb => HA.out W (dg_keep_below HK2.out hb)⟩
  have HBW := Aside0.mk (Below.refl W2.heap.size W2)
  have hd2 := CD.out _ HBW.out
  have q8 := (dg_cell hd2 8).trans rfl
  have q8d : W2.drew.cell? ⟨D, 8, none⟩ = some (.slice AL z cL) := q8
  clear hd2
  go_cut [63] (fun s63 wx => ∃ A6 c6, s63 = .slice A6 (z + m) c6 ∧ Aside0 (Dg wx base D (.slice A6 (z + m) c6) s (left ++ xs) (n + m)) ∧ Aside0 (KeepBut w wx D none) ∧ Aside0 (Below base w wx) ∧ Aside0 (∀ j, (Value.slice A6 (z + m) c6).ownBlock = some j → w.heap.size ≤ j))
  case first =>
    refine start_ (n := 23) (S := fun w' => True) (ds := []) #[false, false, false, false, false, false, false, false, false, false, false, false, false, false, false, false, false, false, false, false, false, false, false] (by kernel_rfl) rfl rfl trivial (fun hHeld => ?_); refine with_tabW wn.tab9 wn.bits9 (fun HT_ HW_ => ?_)
    refine take_ (i := 0) (N := (some 44)) (v := ?_) (a' := ?_) #[true, false, false, false, false, false, false, false, false, false, false, false, false, false, false, false, false, false, false, false, false, false, false] rfl rfl (take_ofW HT_.out HW_.out (by kernel_rfl)) (fun _ _ _ h => h) (Or.inl ⟨by rfl, ?_⟩) hHeld ?_ ?_
    rotate_left
    · rintro w' _
      go_simp
      with_reducible rfl
    rotate_left
    · simp only [Act.put, List.setIfInBounds_toArray, List.set_cons_zero, List.set_cons_succ, i64_w, i32_w]
      rfl
    refine take_ (i := 1) (N := (some 45)) (v := ?_) (a' := ?_) #[true, true, false, false, false, false, false, false, false, false, false, false, false, false, false, false, false, false, false, false, false, false, false] rfl rfl (take_ofW HT_.out HW_.out (by kernel_rfl)) (fun _ _ _ h => h) (Or.inl ⟨by rfl, ?_⟩) hHeld ?_ ?_
    rotate_left
    · rintro w' _
      go_simp
      with_reducible rfl
    rotate_left
    · simp only [Act.put, List.setIfInBounds_toArray, List.set_cons_zero, List.set_cons_succ, i64_w, i32_w]
      rfl
    refine take_ (i := 2) (N := (some 46)) (v := ?_) (a' := ?_) #[true, true, true, false, false, false, false, false, false, false, false, false, false, false, false, false, false, false, false, false, false, false, false] rfl rfl (take_ofW HT_.out HW_.out (by kernel_rfl)) (fun _ _ _ h => h) (Or.inl ⟨by rfl, ?_⟩) hHeld ?_ ?_
    rotate_left
    · rintro w' _
      go_simp
      with_reducible rfl
    rotate_left
    · simp only [Act.put, List.setIfInBounds_toArray, List.set_cons_zero, List.set_cons_succ, i64_w, i32_w]
      rfl
    refine take_ (i := 3) (N := (some 47)) (v := ?_) (a' := ?_) #[true, true, true, true, false, false, false, false, false, false, false, false, false, false, false, false, false, false, false, false, false, false, false] rfl rfl (take_ofW HT_.out HW_.out (by kernel_rfl)) (fun _ _ _ h => h) (Or.inl ⟨by rfl, ?_⟩) hHeld ?_ ?_
    rotate_left
    · rintro w' _
      go_simp
      with_reducible rfl
    rotate_left
    · simp only [Act.put, List.setIfInBounds_toArray, List.set_cons_zero, List.set_cons_succ, i64_w, i32_w]
      rfl
    refine take_ (i := 5) (N := (some 49)) (v := ?_) (a' := ?_) #[true, true, true, true, false, true, false, false, false, false, false, false, false, false, false, false, false, false, false, false, false, false, false] rfl rfl (take_ofW HT_.out HW_.out (by kernel_rfl)) (fun _ _ _ h => h) (Or.inl ⟨by rfl, ?_⟩) hHeld ?_ ?_
    rotate_left
    · rintro w' _
      go_simp
      with_reducible rfl
    rotate_left
    · simp only [Act.put, List.setIfInBounds_toArray, List.set_cons_zero, List.set_cons_succ, i64_w, i32_w]
      rfl
    refine take_ (i := 6) (N := (some 50)) (v := ?_) (a' := ?_) #[true, true, true, true, false, true, true, false, false, false, false, false, false, false, false, false, false, false, false, false, false, false, false] rfl rfl (take_ofW HT_.out HW_.out (by kernel_rfl)) (fun _ _ _ h => h) (Or.inl ⟨by rfl, ?_⟩) hHeld ?_ ?_
    rotate_left
    · rintro w' _
      go_simp
      with_reducible rfl
    rotate_left
    · simp only [Act.put, List.setIfInBounds_toArray, List.set_cons_zero, List.set_cons_succ, i64_w, i32_w]
      rfl
    refine take_ (i := 7) (N := (some 51)) (v := ?_) (a' := ?_) #[true, true, true, true, false, true, true, true, false, false, false, false, false, false, false, false, false, false, false, false, false, false, false] rfl rfl (take_ofW HT_.out HW_.out (by kernel_rfl)) (fun _ _ _ h => h) (Or.inl ⟨by rfl, ?_⟩) hHeld ?_ ?_
    rotate_left
    · rintro w' _
      go_simp
      with_reducible rfl
    rotate_left
    · simp only [Act.put, List.setIfInBounds_toArray, List.set_cons_zero, List.set_cons_succ, i64_w, i32_w]
      rfl
    refine take_ (i := 10) (N := (some 54)) (v := ?_) (a' := ?_) #[true, true, true, true, false, true, true, true, false, false, true, false, false, false, false, false, false, false, false, false, false, false, false] rfl rfl (take_ofW HT_.out HW_.out (by kernel_rfl)) (fun _ _ _ h => h) (Or.inl ⟨by rfl, ?_⟩) hHeld ?_ ?_
    rotate_left
    · rintro w' _
      go_simp
      with_reducible rfl
    rotate_left
    · simp only [Act.put, List.setIfInBounds_toArray, List.set_cons_zero, List.set_cons_succ, i64_w, i32_w]
      rfl
    refine take_ (i := 11) (N := (some 55)) (v := ?_) (a' := ?_) #[true, true, true, true, false, true, true, true, false, false, true, true, false, false, false, false, false, false, false, false, false, false, false] rfl rfl (take_ofW HT_.out HW_.out (by kernel_rfl)) (fun _ _ _ h => h) (Or.inl ⟨by rfl, ?_⟩) hHeld ?_ ?_
    rotate_left
    · rintro w' _
      go_simp
      with_reducible rfl
    rotate_left
    · simp only [Act.put, List.setIfInBounds_toArray, List.set_cons_zero, List.set_cons_succ, i64_w, i32_w]
      rfl
    refine take_ (i := 12) (N := (some 56)) (v := ?_) (a' := ?_) #[true, true, true, true, false, true, true, true, false, false, true, true, true, false, false, false, false, false, false, false, false, false, false] rfl rfl (take_ofW HT_.out HW_.out (by kernel_rfl)) (fun _ _ _ h => h) (Or.inl ⟨by rfl, ?_⟩) hHeld ?_ ?_
    rotate_left
    · rintro w' _
      go_simp
      with_reducible rfl
    rotate_left
    · simp only [Act.put, List.setIfInBounds_toArray, List.set_cons_zero, List.set_cons_succ, i64_w, i32_w]
      rfl
    refine take_ (i := 16) (N := (some 60)) (v := ?_) (a' := ?_) #[true, true, true, true, false, true, true, true, false, false, true, true, true, false, false, false, true, false, false, false, false, false, false] rfl rfl (take_ofW HT_.out HW_.out (by kernel_rfl)) (fun _ _ _ h => h) (Or.inl ⟨by rfl, ?_⟩) hHeld ?_ ?_
    rotate_left
    · rintro w' _
      go_simp
      with_reducible rfl
    rotate_left
    · simp only [Act.put, List.setIfInBounds_toArray, List.set_cons_zero, List.set_cons_succ, i64_w, i32_w]
      rfl
    refine take_ (i := 17) (N := (some 61)) (v := ?_) (a' := ?_) #[true, true, true, true, false, true, true, true, false, false, true, true, true, false, false, false, true, true, false, false, false, false, false] rfl rfl (take_ofW HT_.out HW_.out (by kernel_rfl)) (fun _ _ _ h => h) (Or.inl ⟨by rfl, ?_⟩) hHeld ?_ ?_
    rotate_left
    · rintro w' _
      go_simp
      with_reducible rfl
    rotate_left
    · simp only [Act.put, List.setIfInBounds_toArray, List.set_cons_zero, List.set_cons_succ, i64_w, i32_w]
      rfl
    refine take_ (i := 18) (N := (some 62)) (v := ?_) (a' := ?_) #[true, true, true, true, false, true, true, true, false, false, true, true, true, false, false, false, true, true, true, false, false, false, false] rfl rfl (take_ofW HT_.out HW_.out (by kernel_rfl)) (fun _ _ _ h => h) (Or.inl ⟨by rfl, ?_⟩) hHeld ?_ ?_
    rotate_left
    · rintro w' _
      go_simp
      with_reducible rfl
    rotate_left
    · simp only [Act.put, List.setIfInBounds_toArray, List.set_cons_zero, List.set_cons_succ, i64_w, i32_w]
      rfl
    refine three_ (i := 4) (j := 8) (k := 13) (Ni := (some 48)) (Nj := (some 52)) (Nk := (some 57)) #[true, true, true, true, true, true, true, true, false, false, true, true, true, false, false, false, true, true, true, false, false, false, false] #[true, true, true, true, false, true, true, true, true, false, true, true, true, false, false, false, true, true, true, false, false, false, false] #[true, true, true, true, false, true, true, true, false, false, true, true, true, true, false, false, true, true, true, false, false, false, false] rfl rfl rfl rfl rfl rfl (three_of HT_.out (by kernel_rfl)) (by decide) (by decide) (by decide) (fun K hK => ?_)  (fun K hK => ?_)  (fun K hK => ?_)
    · skip
      refine value_ (by rfl) rfl (v := ?_) (w1 := ?_) ?_ ?_
      rotate_left 2
      · (go_simp; first | (with_reducible rfl) | (constructor <;> with_reducible rfl))
      refine hK.out _ _ trivial (fun hHeld => ?_)
      clear hK K
      refine norm_ (a' := ?_) ?_ ?_
      rotate_left
      · show Act.put _ (some 48) _ = _
        simp only [Act.put, List.setIfInBounds_toArray, List.set_cons_zero, List.set_cons_succ, i64_w, i32_w]
        rfl
      refine two_ (i := 8) (j := 13) (Ni := (some 52)) (Nj := (some 57)) #[true, true, true, true, true, true, true, true, true, false, true, true, true, false, false, false, true, true, true, false, false, false, false] #[true, true, true, true, true, true, true, true, false, false, true, true, true, true, false, false, true, true, true, false, false, false, false] rfl rfl rfl rfl (two_of HT_.out (by kernel_rfl)) (by decide) (by decide) (fun K hK => ?_)  (fun K hK => ?_)
      · skip
        refine value_ (by rfl) rfl (v := ?_) (w1 := ?_) ?_ ?_
        rotate_left 2
        · (go_simp; first | (with_reducible rfl) | (constructor <;> with_reducible rfl))
        refine hK.out _ _ trivial (fun hHeld => ?_)
        clear hK K
        refine norm_ (a' := ?_) ?_ ?_
        rotate_left
        · show Act.put _ (some 52) _ = _
          simp only [Act.put, List.setIfInBounds_toArray, List.set_cons_zero, List.set_cons_succ, i64_w, i32_w]
          rfl
        refine take_ (i := 9) (N := (some 53)) (v := ?_) (a' := ?_) #[true, true, true, true, true, true, true, true, true, true, true, true, true, false, false, false, true, true, true, false, false, false, false] rfl rfl (take_ofW HT_.out HW_.out (by kernel_rfl)) (fun _ _ _ h => h) (Or.inl ⟨by rfl, ?_⟩) hHeld ?_ ?_
        rotate_left
        · rintro w' _
          go_simp
          with_reducible rfl
        rotate_left
        · simp only [Act.put, List.setIfInBounds_toArray, List.set_cons_zero, List.set_cons_succ, i64_w, i32_w]
          rfl
        refine one_ (i := 13) (N := (some 57)) #[true, true, true, true, true, true, true, true, true, true, true, true, true, true, false, false, true, true, true, false, false, false, false] rfl rfl (one_of HT_.out (by kernel_rfl)) (by decide) (fun K hK => ?_)
        refine value_ (by rfl) rfl (v := ?_) (w1 := ?_) ?_ ?_
        rotate_left 2
        · (go_simp; first | (with_reducible rfl) | (constructor <;> with_reducible rfl))
        refine hK.out _ _ trivial (fun hHeld => ?_)
        clear hK K
        refine norm_ (a' := ?_) ?_ ?_
        rotate_left
        · show Act.put _ (some 57) _ = _
          simp only [Act.put, List.setIfInBounds_toArray, List.set_cons_zero, List.set_cons_succ, i64_w, i32_w]
          rfl
        refine take_ (i := 14) (N := (some 58)) (v := ?_) (a' := ?_) #[true, true, true, true, true, true, true, true, true, true, true, true, true, true, true, false, true, true, true, false, false, false, false] rfl rfl (take_ofW HT_.out HW_.out (by kernel_rfl)) (fun _ _ _ h => h) (Or.inl ⟨by rfl, ?_⟩) hHeld ?_ ?_
        rotate_left
        · rintro w' _
          go_simp
          with_reducible rfl
        rotate_left
        · simp only [Act.put, List.setIfInBounds_toArray, List.set_cons_zero, List.set_cons_succ, i64_w, i32_w]
          rfl
        refine take_ (i := 15) (N := (some 59)) (v := ?_) (a' := ?_) #[true, true, true, true, true, true, true, true, true, true, true, true, true, true, true, true, true, true, true, false, false, false, false] rfl rfl (take_ofW HT_.out HW_.out (by kernel_rfl)) (fun _ _ _ h => h) (Or.inl ⟨by rfl, ?_⟩) hHeld ?_ ?_
        rotate_left
        · rintro w' _
          go_simp
          with_reducible rfl
        rotate_left
        · simp only [Act.put, List.setIfInBounds_toArray, List.set_cons_zero, List.set_cons_succ, i64_w, i32_w]
          rfl
        refine one_ (i := 19) (N := (some 63)) #[true, true, true, true, true, true, true, true, true, true, true, true, true, true, true, true, true, true, true, true, false, false, false] rfl rfl (one_of HT_.out (by kernel_rfl)) (by decide) (fun K hK => ?_)
        refine step_grow .u8 (by rfl) 63 rfl (.tmp 59) (.tmp 62) 22 5 1 rfl Try.underlying22 dg_info AL z left A m c xs rfl rfl (CL.out _ (by repeat (first | exact HBW.out | apply below_drew | apply below_alloc | apply pw_below_drewN))) (CA.out _ (by repeat (first | exact HBW.out | apply below_drew | apply below_alloc | apply pw_below_drewN))) HZ.out.2.1 HKM.out.1 (by have q_ := HKM.out; omega) (by have q_ := HKM.out; simp only [maxLen]; omega) (fun v1 w3 ho1 hb1 => ?_)
        obtain ⟨A6, c6, rfl⟩ := Kd.R_slice ho1
        have hl_ : (left ++ xs).length = z + m := by rw [List.length_append, HZ.out.1, (CA.out _ HBW.out).1]
        have HO := Aside0.mk ho1
        have HBn := Aside0.mk (below_step (by exact (by repeat (first | exact HBW.out | apply below_drew | apply below_alloc | apply pw_below_drewN))) hb1)
        clear ho1 hb1 HBW
        have HBW := HBn
        clear HBn
        have hd3 := CD.out _ HBW.out
        have q8n := (dg_cell hd3 8).trans rfl
        have f8n := dg_free hd3 8
        clear hd3
        refine hK.out _ _ trivial (fun hHeld => ?_)
        clear hK K
        refine norm_ (a' := ?_) ?_ ?_
        rotate_left
        · show Act.put _ (some 63) _ = _
          simp only [Act.put, List.setIfInBounds_toArray, List.set_cons_zero, List.set_cons_succ, i64_w, i32_w]
          rfl
        refine take_ (i := 20) (N := (some 64)) (v := ?_) (a' := ?_) #[true, true, true, true, true, true, true, true, true, true, true, true, true, true, true, true, true, true, true, true, true, false, false] rfl rfl (take_ofW HT_.out HW_.out (by kernel_rfl)) (fun _ _ _ h => h) (Or.inl ⟨by rfl, ?_⟩) hHeld ?_ ?_
        rotate_left
        · rintro w' _
          go_simp
          with_reducible rfl
        rotate_left
        · simp only [Act.put, List.setIfInBounds_toArray, List.set_cons_zero, List.set_cons_succ, i64_w, i32_w]
          rfl
        refine take_ (i := 21) (N := (some 65)) (v := ?_) (a' := ?_) #[true, true, true, true, true, true, true, true, true, true, true, true, true, true, true, true, true, true, true, true, true, true, false] rfl rfl (take_ofW HT_.out HW_.out (by kernel_rfl)) (fun _ _ _ h => h) (Or.inl ⟨by rfl, ?_⟩) hHeld ?_ ?_
        rotate_left
        · rintro w' _
          go_simp
          with_reducible rfl
        rotate_left
        · simp only [Act.put, List.setIfInBounds_toArray, List.set_cons_zero, List.set_cons_succ, i64_w, i32_w]
          rfl
        refine one_ (i := 22) (N := none) #[true, true, true, true, true, true, true, true, true, true, true, true, true, true, true, true, true, true, true, true, true, true, true] rfl rfl (one_of HT_.out (by kernel_rfl)) (by decide) (fun K hK => ?_)
        refine skip_ (by rfl) rfl (w1 := ?_) ?_ ?_
        rotate_left 1
        · (go_simp; first | (with_reducible rfl) | trace_state)
        refine hK.out _ _ trivial (fun hHeld => ?_)
        clear hK K
        refine done_ (done_of HT_.out (by kernel_rfl)) ?_
        go_wp2
        go_meet
        exact ⟨A6, c6, by rw [hl_], by rw [← hl_]; exact ⟨dg_left (CD.out _ HBW.out) (Rc.of (Kd.R_lower HO.out (Nat.le_trans HBS.out HB3.out.size)))⟩, ⟨dg_keep_set (dg_keep_below HK2.out HBW.out)⟩, ⟨dg_bset (dg_below HB3.out HBS.out HBW.out) HD.out _ _⟩, ⟨by rw [← hl_]; exact fun j hj => Nat.le_trans HB3.out.size (Kd.R_base HO.out j hj)⟩⟩
      · skip
        refine value_ (by rfl) rfl (v := ?_) (w1 := ?_) ?_ ?_
        rotate_left 2
        · (go_simp; first | (with_reducible rfl) | (constructor <;> with_reducible rfl))
        refine hK.out _ _ trivial (fun hHeld => ?_)
        clear hK K
        refine norm_ (a' := ?_) ?_ ?_
        rotate_left
        · show Act.put _ (some 57) _ = _
          simp only [Act.put, List.setIfInBounds_toArray, List.set_cons_zero, List.set_cons_succ, i64_w, i32_w]
          rfl
        refine take_ (i := 14) (N := (some 58)) (v := ?_) (a' := ?_) #[true, true, true, true, true, true, true, true, false, false, true, true, true, true, true, false, true, true, true, false, false, false, false] rfl rfl (take_ofW HT_.out HW_.out (by kernel_rfl)) (fun _ _ _ h => h) (Or.inl ⟨by rfl, ?_⟩) hHeld ?_ ?_
        rotate_left
        · rintro w' _
          go_simp
          with_reducible rfl
        rotate_left
        · simp only [Act.put, List.setIfInBounds_toArray, List.set_cons_zero, List.set_cons_succ, i64_w, i32_w]
          rfl
        refine one_ (i := 8) (N := (some 52)) #[true, true, true, true, true, true, true, true, true, false, true, true, true, true, true, false, true, true, true, false, false, false, false] rfl rfl (one_of HT_.out (by kernel_rfl)) (by decide) (fun K hK => ?_)
        refine value_ (by rfl) rfl (v := ?_) (w1 := ?_) ?_ ?_
        rotate_left 2
        · (go_simp; first | (with_reducible rfl) | (constructor <;> with_reducible rfl))
        refine hK.out _ _ trivial (fun hHeld => ?_)
        clear hK K
        refine norm_ (a' := ?_) ?_ ?_
        rotate_left
        · show Act.put _ (some 52) _ = _
          simp only [Act.put, List.setIfInBounds_toArray, List.set_cons_zero, List.set_cons_succ, i64_w, i32_w]
          rfl
        refine take_ (i := 9) (N := (some 53)) (v := ?_) (a' := ?_) #[true, true, true, true, true, true, true, true, true, true, true, true, true, true, true, false, true, true, true, false, false, false, false] rfl rfl (take_ofW HT_.out HW_.out (by kernel_rfl)) (fun _ _ _ h => h) (Or.inl ⟨by rfl, ?_⟩) hHeld ?_ ?_
        rotate_left
        · rintro w' _
          go_simp
          with_reducible rfl
        rotate_left
        · simp only [Act.put, List.setIfInBounds_toArray, List.set_cons_zero, List.set_cons_succ, i64_w, i32_w]
          rfl
        refine take_ (i := 15) (N := (some 59)) (v := ?_) (a' := ?_) #[true, true, true, true, true, true, true, true, true, true, true, true, true, true, true, true, true, true, true, false, false, false, false] rfl rfl (take_ofW HT_.out HW_.out (by kernel_rfl)) (fun _ _ _ h => h) (Or.inl ⟨by rfl, ?_⟩) hHeld ?_ ?_
        rotate_left
        · rintro w' _
          go_simp
          with_reducible rfl
        rotate_left
        · simp only [Act.put, List.setIfInBounds_toArray, List.set_cons_zero, List.set_cons_succ, i64_w, i32_w]
          rfl
        refine one_ (i := 19) (N := (some 63)) #[true, true, true, true, true, true, true, true, true, true, true, true, true, true, true, true, true, true, true, true, false, false, false] rfl rfl (one_of HT_.out (by kernel_rfl)) (by decide) (fun K hK => ?_)
        refine step_grow .u8 (by rfl) 63 rfl (.tmp 59) (.tmp 62) 22 5 1 rfl Try.underlying22 dg_info AL z left A m c xs rfl rfl (CL.out _ (by repeat (first | exact HBW.out | apply below_drew | apply below_alloc | apply pw_below_drewN))) (CA.out _ (by repeat (first | exact HBW.out | apply below_drew | apply below_alloc | apply pw_below_drewN))) HZ.out.2.1 HKM.out.1 (by have q_ := HKM.out; omega) (by have q_ := HKM.out; simp only [maxLen]; omega) (fun v1 w3 ho1 hb1 => ?_)
        obtain ⟨A6, c6, rfl⟩ := Kd.R_slice ho1
        have hl_ : (left ++ xs).length = z + m := by rw [List.length_append, HZ.out.1, (CA.out _ HBW.out).1]
        have HO := Aside0.mk ho1
        have HBn := Aside0.mk (below_step (by exact (by repeat (first | exact HBW.out | apply below_drew | apply below_alloc | apply pw_below_drewN))) hb1)
        clear ho1 hb1 HBW
        have HBW := HBn
        clear HBn
        have hd3 := CD.out _ HBW.out
        have q8n := (dg_cell hd3 8).trans rfl
        have f8n := dg_free hd3 8
        clear hd3
        refine hK.out _ _ trivial (fun hHeld => ?_)
        clear hK K
        refine norm_ (a' := ?_) ?_ ?_
        rotate_left
        · show Act.put _ (some 63) _ = _
          simp only [Act.put, List.setIfInBounds_toArray, List.set_cons_zero, List.set_cons_succ, i64_w, i32_w]
          rfl
        refine take_ (i := 20) (N := (some 64)) (v := ?_) (a' := ?_) #[true, true, true, true, true, true, true, true, true, true, true, true, true, true, true, true, true, true, true, true, true, false, false] rfl rfl (take_ofW HT_.out HW_.out (by kernel_rfl)) (fun _ _ _ h => h) (Or.inl ⟨by rfl, ?_⟩) hHeld ?_ ?_
        rotate_left
        · rintro w' _
          go_simp
          with_reducible rfl
        rotate_left
        · simp only [Act.put, List.setIfInBounds_toArray, List.set_cons_zero, List.set_cons_succ, i64_w, i32_w]
          rfl
        refine take_ (i := 21) (N := (some 65)) (v := ?_) (a' := ?_) #[true, true, true, true, true, true, true, true, true, true, true, true, true, true, true, true, true, true, true, true, true, true, false] rfl rfl (take_ofW HT_.out HW_.out (by kernel_rfl)) (fun _ _ _ h => h) (Or.inl ⟨by rfl, ?_⟩) hHeld ?_ ?_
        rotate_left
        · rintro w' _
          go_simp
          with_reducible rfl
        rotate_left
        · simp only [Act.put, List.setIfInBounds_toArray, List.set_cons_zero, List.set_cons_succ, i64_w, i32_w]
          rfl
        refine one_ (i := 22) (N := none) #[true, true, true, true, true, true, true, true, true, true, true, true, true, true, true, true, true, true, true, true, true, true, true] rfl rfl (one_of HT_.out (by kernel_rfl)) (by decide) (fun K hK => ?_)
        refine skip_ (by rfl) rfl (w1 := ?_) ?_ ?_
        rotate_left 1
        · (go_simp; first | (with_reducible rfl) | trace_state)
        refine hK.out _ _ trivial (fun hHeld => ?_)
        clear hK K
        refine done_ (done_of HT_.out (by kernel_rfl)) ?_
        go_wp2
        go_meet
        exact ⟨A6, c6, by rw [hl_], by rw [← hl_]; exact ⟨dg_left (CD.out _ HBW.out) (Rc.of (Kd.R_lower HO.out (Nat.le_trans HBS.out HB3.out.size)))⟩, ⟨dg_keep_set (dg_keep_below HK2.out HBW.out)⟩, ⟨dg_bset (dg_below HB3.out HBS.out HBW.out) HD.out _ _⟩, ⟨by rw [← hl_]; exact fun j hj => Nat.le_trans HB3.out.size (Kd.R_base HO.out j hj)⟩⟩
    · skip
      refine value_ (by rfl) rfl (v := ?_) (w1 := ?_) ?_ ?_
      rotate_left 2
      · (go_simp; first | (with_reducible rfl) | (constructor <;> with_reducible rfl))
      refine hK.out _ _ trivial (fun hHeld => ?_)
      clear hK K
      refine norm_ (a' := ?_) ?_ ?_
      rotate_left
      · show Act.put _ (some 52) _ = _
        simp only [Act.put, List.setIfInBounds_toArray, List.set_cons_zero, List.set_cons_succ, i64_w, i32_w]
        rfl
      refine take_ (i := 9) (N := (some 53)) (v := ?_) (a' := ?_) #[true, true, true, true, false, true, true, true, true, true, true, true, true, false, false, false, true, true, true, false, false, false, false] rfl rfl (take_ofW HT_.out HW_.out (by kernel_rfl)) (fun _ _ _ h => h) (Or.inl ⟨by rfl, ?_⟩) hHeld ?_ ?_
      rotate_left
      · rintro w' _
        go_simp
        with_reducible rfl
      rotate_left
      · simp only [Act.put, List.setIfInBounds_toArray, List.set_cons_zero, List.set_cons_succ, i64_w, i32_w]
        rfl
      refine two_ (i := 4) (j := 13) (Ni := (some 48)) (Nj := (some 57)) #[true, true, true, true, true, true, true, true, true, true, true, true, true, false, false, false, true, true, true, false, false, false, false] #[true, true, true, true, false, true, true, true, true, true, true, true, true, true, false, false, true, true, true, false, false, false, false] rfl rfl rfl rfl (two_of HT_.out (by kernel_rfl)) (by decide) (by decide) (fun K hK => ?_)  (fun K hK => ?_)
      · skip
        refine value_ (by rfl) rfl (v := ?_) (w1 := ?_) ?_ ?_
        rotate_left 2
        · (go_simp; first | (with_reducible rfl) | (constructor <;> with_reducible rfl))
        refine hK.out _ _ trivial (fun hHeld => ?_)
        clear hK K
        refine norm_ (a' := ?_) ?_ ?_
        rotate_left
        · show Act.put _ (some 48) _ = _
          simp only [Act.put, List.setIfInBounds_toArray, List.set_cons_zero, List.set_cons_succ, i64_w, i32_w]
          rfl
        refine one_ (i := 13) (N := (some 57)) #[true, true, true, true, true, true, true, true, true, true, true, true, true, true, false, false, true, true, true, false, false, false, false] rfl rfl (one_of HT_.out (by kernel_rfl)) (by decide) (fun K hK => ?_)
        refine value_ (by rfl) rfl (v := ?_) (w1 := ?_) ?_ ?_
        rotate_left 2
        · (go_simp; first | (with_reducible rfl) | (constructor <;> with_reducible rfl))
        refine hK.out _ _ trivial (fun hHeld => ?_)
        clear hK K
        refine norm_ (a' := ?_) ?_ ?_
        rotate_left
        · show Act.put _ (some 57) _ = _
          simp only [Act.put, List.setIfInBounds_toArray, List.set_cons_zero, List.set_cons_succ, i64_w, i32_w]
          rfl
        refine take_ (i := 14) (N := (some 58)) (v := ?_) (a' := ?_) #[true, true, true, true, true, true, true, true, true, true, true, true, true, true, true, false, true, true, true, false, false, false, false] rfl rfl (take_ofW HT_.out HW_.out (by kernel_rfl)) (fun _ _ _ h => h) (Or.inl ⟨by rfl, ?_⟩) hHeld ?_ ?_
        rotate_left
        · rintro w' _
          go_simp
          with_reducible rfl
        rotate_left
        · simp only [Act.put, List.setIfInBounds_toArray, List.set_cons_zero, List.set_cons_succ, i64_w, i32_w]
          rfl
        refine take_ (i := 15) (N := (some 59)) (v := ?_) (a' := ?_) #[true, true, true, true, true, true, true, true, true, true, true, true, true, true, true, true, true, true, true, false, false, false, false] rfl rfl (take_ofW HT_.out HW_.out (by kernel_rfl)) (fun _ _ _ h => h) (Or.inl ⟨by rfl, ?_⟩) hHeld ?_ ?_
        rotate_left
        · rintro w' _
          go_simp
          with_reducible rfl
        rotate_left
        · simp only [Act.put, List.setIfInBounds_toArray, List.set_cons_zero, List.set_cons_succ, i64_w, i32_w]
          rfl
        refine one_ (i := 19) (N := (some 63)) #[true, true, true, true, true, true, true, true, true, true, true, true, true, true, true, true, true, true, true, true, false, false, false] rfl rfl (one_of HT_.out (by kernel_rfl)) (by decide) (fun K hK => ?_)
        refine step_grow .u8 (by rfl) 63 rfl (.tmp 59) (.tmp 62) 22 5 1 rfl Try.underlying22 dg_info AL z left A m c xs rfl rfl (CL.out _ (by repeat (first | exact HBW.out | apply below_drew | apply below_alloc | apply pw_below_drewN))) (CA.out _ (by repeat (first | exact HBW.out | apply below_drew | apply below_alloc | apply pw_below_drewN))) HZ.out.2.1 HKM.out.1 (by have q_ := HKM.out; omega) (by have q_ := HKM.out; simp only [maxLen]; omega) (fun v1 w3 ho1 hb1 => ?_)
        obtain ⟨A6, c6, rfl⟩ := Kd.R_slice ho1
        have hl_ : (left ++ xs).length = z + m := by rw [List.length_append, HZ.out.1, (CA.out _ HBW.out).1]
        have HO := Aside0.mk ho1
        have HBn := Aside0.mk (below_step (by exact (by repeat (first | exact HBW.out | apply below_drew | apply below_alloc | apply pw_below_drewN))) hb1)
        clear ho1 hb1 HBW
        have HBW := HBn
        clear HBn
        have hd3 := CD.out _ HBW.out
        have q8n := (dg_cell hd3 8).trans rfl
        have f8n := dg_free hd3 8
        clear hd3
        refine hK.out _ _ trivial (fun hHeld => ?_)
        clear hK K
        refine norm_ (a' := ?_) ?_ ?_
        rotate_left
        · show Act.put _ (some 63) _ = _
          simp only [Act.put, List.setIfInBounds_toArray, List.set_cons_zero, List.set_cons_succ, i64_w, i32_w]
          rfl
        refine take_ (i := 20) (N := (some 64)) (v := ?_) (a' := ?_) #[true, true, true, true, true, true, true, true, true, true, true, true, true, true, true, true, true, true, true, true, true, false, false] rfl rfl (take_ofW HT_.out HW_.out (by kernel_rfl)) (fun _ _ _ h => h) (Or.inl ⟨by rfl, ?_⟩) hHeld ?_ ?_
        rotate_left
        · rintro w' _
          go_simp
          with_reducible rfl
        rotate_left
        · simp only [Act.put, List.setIfInBounds_toArray, List.set_cons_zero, List.set_cons_succ, i64_w, i32_w]
          rfl
        refine take_ (i := 21) (N := (some 65)) (v := ?_) (a' := ?_) #[true, true, true, true, true, true, true, true, true, true, true, true, true, true, true, true, true, true, true, true, true, true, false] rfl rfl (take_ofW HT_.out HW_.out (by kernel_rfl)) (fun _ _ _ h => h) (Or.inl ⟨by rfl, ?_⟩) hHeld ?_ ?_
        rotate_left
        · rintro w' _
          go_simp
          with_reducible rfl
        rotate_left
        · simp only [Act.put, List.setIfInBounds_toArray, List.set_cons_zero, List.set_cons_succ, i64_w, i32_w]
          rfl
        refine one_ (i := 22) (N := none) #[true, true, true, true, true, true, true, true, true, true, true, true, true, true, true, true, true, true, true, true, true, true, true] rfl rfl (one_of HT_.out (by kernel_rfl)) (by decide) (fun K hK => ?_)
        refine skip_ (by rfl) rfl (w1 := ?_) ?_ ?_
        rotate_left 1
        · (go_simp; first | (with_reducible rfl) | trace_state)
        refine hK.out _ _ trivial (fun hHeld => ?_)
        clear hK K
        refine done_ (done_of HT_.out (by kernel_rfl)) ?_
        go_wp2
        go_meet
        exact ⟨A6, c6, by rw [hl_], by rw [← hl_]; exact ⟨dg_left (CD.out _ HBW.out) (Rc.of (Kd.R_lower HO.out (Nat.le_trans HBS.out HB3.out.size)))⟩, ⟨dg_keep_set (dg_keep_below HK2.out HBW.out)⟩, ⟨dg_bset (dg_below HB3.out HBS.out HBW.out) HD.out _ _⟩, ⟨by rw [← hl_]; exact fun j hj => Nat.le_trans HB3.out.size (Kd.R_base HO.out j hj)⟩⟩
      · skip
        refine value_ (by rfl) rfl (v := ?_) (w1 := ?_) ?_ ?_
        rotate_left 2
        · (go_simp; first | (with_reducible rfl) | (constructor <;> with_reducible rfl))
        refine hK.out _ _ trivial (fun hHeld => ?_)
        clear hK K
        refine norm_ (a' := ?_) ?_ ?_
        rotate_left
        · show Act.put _ (some 57) _ = _
          simp only [Act.put, List.setIfInBounds_toArray, List.set_cons_zero, List.set_cons_succ, i64_w, i32_w]
          rfl
        refine take_ (i := 14) (N := (some 58)) (v := ?_) (a' := ?_) #[true, true, true, true, false, true, true, true, true, true, true, true, true, true, true, false, true, true, true, false, false, false, false] rfl rfl (take_ofW HT_.out HW_.out (by kernel_rfl)) (fun _ _ _ h => h) (Or.inl ⟨by rfl, ?_⟩) hHeld ?_ ?_
        rotate_left
        · rintro w' _
          go_simp
          with_reducible rfl
        rotate_left
        · simp only [Act.put, List.setIfInBounds_toArray, List.set_cons_zero, List.set_cons_succ, i64_w, i32_w]
          rfl
        refine one_ (i := 4) (N := (some 48)) #[true, true, true, true, true, true, true, true, true, true, true, true, true, true, true, false, true, true, true, false, false, false, false] rfl rfl (one_of HT_.out (by kernel_rfl)) (by decide) (fun K hK => ?_)
        refine value_ (by rfl) rfl (v := ?_) (w1 := ?_) ?_ ?_
        rotate_left 2
        · (go_simp; first | (with_reducible rfl) | (constructor <;> with_reducible rfl))
        refine hK.out _ _ trivial (fun hHeld => ?_)
        clear hK K
        refine norm_ (a' := ?_) ?_ ?_
        rotate_left
        · show Act.put _ (some 48) _ = _
          simp only [Act.put, List.setIfInBounds_toArray, List.set_cons_zero, List.set_cons_succ, i64_w, i32_w]
          rfl
        refine take_ (i := 15) (N := (some 59)) (v := ?_) (a' := ?_) #[true, true, true, true, true, true, true, true, true, true, true, true, true, true, true, true, true, true, true, false, false, false, false] rfl rfl (take_ofW HT_.out HW_.out (by kernel_rfl)) (fun _ _ _ h => h) (Or.inl ⟨by rfl, ?_⟩) hHeld ?_ ?_
        rotate_left
        · rintro w' _
          go_simp
          with_reducible rfl
        rotate_left
        · simp only [Act.put, List.setIfInBounds_toArray, List.set_cons_zero, List.set_cons_succ, i64_w, i32_w]
          rfl
        refine one_ (i := 19) (N := (some 63)) #[true, true, true, true, true, true, true, true, true, true, true, true, true, true, true, true, true, true, true, true, false, false, false] rfl rfl (one_of HT_.out (by kernel_rfl)) (by decide) (fun K hK => ?_)
        refine step_grow .u8 (by rfl) 63 rfl (.tmp 59) (.tmp 62) 22 5 1 rfl Try.underlying22 dg_info AL z left A m c xs rfl rfl (CL.out _ (by repeat (first | exact HBW.out | apply below_drew | apply below_alloc | apply pw_below_drewN))) (CA.out _ (by repeat (first | exact HBW.out | apply below_drew | apply below_alloc | apply pw_below_drewN))) HZ.out.2.1 HKM.out.1 (by have q_ := HKM.out; omega) (by have q_ := HKM.out; simp only [maxLen]; omega) (fun v1 w3 ho1 hb1 => ?_)
        obtain ⟨A6, c6, rfl⟩ := Kd.R_slice ho1
        have hl_ : (left ++ xs).length = z + m := by rw [List.length_append, HZ.out.1, (CA.out _ HBW.out).1]
        have HO := Aside0.mk ho1
        have HBn := Aside0.mk (below_step (by exact (by repeat (first | exact HBW.out | apply below_drew | apply below_alloc | apply pw_below_drewN))) hb1)
        clear ho1 hb1 HBW
        have HBW := HBn
        clear HBn
        have hd3 := CD.out _ HBW.out
        have q8n := (dg_cell hd3 8).trans rfl
        have f8n := dg_free hd3 8
        clear hd3
        refine hK.out _ _ trivial (fun hHeld => ?_)
        clear hK K
        refine norm_ (a' := ?_) ?_ ?_
        rotate_left
        · show Act.put _ (some 63) _ = _
          simp only [Act.put, List.setIfInBounds_toArray, List.set_cons_zero, List.set_cons_succ, i64_w, i32_w]
          rfl
        refine take_ (i := 20) (N := (some 64)) (v := ?_) (a' := ?_) #[true, true, true, true, true, true, true, true, true, true, true, true, true, true, true, true, true, true, true, true, true, false, false] rfl rfl (take_ofW HT_.out HW_.out (by kernel_rfl)) (fun _ _ _ h => h) (Or.inl ⟨by rfl, ?_⟩) hHeld ?_ ?_
        rotate_left
        · rintro w' _
          go_simp
          with_reducible rfl
        rotate_left
        · simp only [Act.put, List.setIfInBounds_toArray, List.set_cons_zero, List.set_cons_succ, i64_w, i32_w]
          rfl
        refine take_ (i := 21) (N := (some 65)) (v := ?_) (a' := ?_) #[true, true, true, true, true, true, true, true, true, true, true, true, true, true, true, true, true, true, true, true, true, true, false] rfl rfl (take_ofW HT_.out HW_.out (by kernel_rfl)) (fun _ _ _ h => h) (Or.inl ⟨by rfl, ?_⟩) hHeld ?_ ?_
        rotate_left
        · rintro w' _
          go_simp
          with_reducible rfl
        rotate_left
        · simp only [Act.put, List.setIfInBounds_toArray, List.set_cons_zero, List.set_cons_succ, i64_w, i32_w]
          rfl
        refine one_ (i := 22) (N := none) #[true, true, true, true, true, true, true, true, true, true, true, true, true, true, true, true, true, true, true, true, true, true, true] rfl rfl (one_of HT_.out (by kernel_rfl)) (by decide) (fun K hK => ?_)
        refine skip_ (by rfl) rfl (w1 := ?_) ?_ ?_
        rotate_left 1
        · (go_simp; first | (with_reducible rfl) | trace_state)
        refine hK.out _ _ trivial (fun hHeld => ?_)
        clear hK K
        refine done_ (done_of HT_.out (by kernel_rfl)) ?_
        go_wp2
        go_meet
        exact ⟨A6, c6, by rw [hl_], by rw [← hl_]; exact ⟨dg_left (CD.out _ HBW.out) (Rc.of (Kd.R_lower HO.out (Nat.le_trans HBS.out HB3.out.size)))⟩, ⟨dg_keep_set (dg_keep_below HK2.out HBW.out)⟩, ⟨dg_bset (dg_below HB3.out HBS.out HBW.out) HD.out _ _⟩, ⟨by rw [← hl_]; exact fun j hj => Nat.le_trans HB3.out.size (Kd.R_base HO.out j hj)⟩⟩
    · skip
      refine value_ (by rfl) rfl (v := ?_) (w1 := ?_) ?_ ?_
      rotate_left 2
      · (go_simp; first | (with_reducible rfl) | (constructor <;> with_reducible rfl))
      refine hK.out _ _ trivial (fun hHeld => ?_)
      clear hK K
      refine norm_ (a' := ?_) ?_ ?_
      rotate_left
      · show Act.put _ (some 57) _ = _
        simp only [Act.put, List.setIfInBounds_toArray, List.set_cons_zero, List.set_cons_succ, i64_w, i32_w]
        rfl
      refine take_ (i := 14) (N := (some 58)) (v := ?_) (a' := ?_) #[true, true, true, true, false, true, true, true, false, false, true, true, true, true, true, false, true, true, true, false, false, false, false] rfl rfl (take_ofW HT_.out HW_.out (by kernel_rfl)) (fun _ _ _ h => h) (Or.inl ⟨by rfl, ?_⟩) hHeld ?_ ?_
      rotate_left
      · rintro w' _
        go_simp
        with_reducible rfl
      rotate_left
      · simp only [Act.put, List.setIfInBounds_toArray, List.set_cons_zero, List.set_cons_succ, i64_w, i32_w]
        rfl
      refine two_ (i := 4) (j := 8) (Ni := (some 48)) (Nj := (some 52)) #[true, true, true, true, true, true, true, true, false, false, true, true, true, true, true, false, true, true, true, false, false, false, false] #[true, true, true, true, false, true, true, true, true, false, true, true, true, true, true, false, true, true, true, false, false, false, false] rfl rfl rfl rfl (two_of HT_.out (by kernel_rfl)) (by decide) (by decide) (fun K hK => ?_)  (fun K hK => ?_)
      · skip
        refine value_ (by rfl) rfl (v := ?_) (w1 := ?_) ?_ ?_
        rotate_left 2
        · (go_simp; first | (with_reducible rfl) | (constructor <;> with_reducible rfl))
        refine hK.out _ _ trivial (fun hHeld => ?_)
        clear hK K
        refine norm_ (a' := ?_) ?_ ?_
        rotate_left
        · show Act.put _ (some 48) _ = _
          simp only [Act.put, List.setIfInBounds_toArray, List.set_cons_zero, List.set_cons_succ, i64_w, i32_w]
          rfl
        refine one_ (i := 8) (N := (some 52)) #[true, true, true, true, true, true, true, true, true, false, true, true, true, true, true, false, true, true, true, false, false, false, false] rfl rfl (one_of HT_.out (by kernel_rfl)) (by decide) (fun K hK => ?_)
        refine value_ (by rfl) rfl (v := ?_) (w1 := ?_) ?_ ?_
        rotate_left 2
        · (go_simp; first | (with_reducible rfl) | (constructor <;> with_reducible rfl))
        refine hK.out _ _ trivial (fun hHeld => ?_)
        clear hK K
        refine norm_ (a' := ?_) ?_ ?_
        rotate_left
        · show Act.put _ (some 52) _ = _
          simp only [Act.put, List.setIfInBounds_toArray, List.set_cons_zero, List.set_cons_succ, i64_w, i32_w]
          rfl
        refine take_ (i := 9) (N := (some 53)) (v := ?_) (a' := ?_) #[true, true, true, true, true, true, true, true, true, true, true, true, true, true, true, false, true, true, true, false, false, false, false] rfl rfl (take_ofW HT_.out HW_.out (by kernel_rfl)) (fun _ _ _ h => h) (Or.inl ⟨by rfl, ?_⟩) hHeld ?_ ?_
        rotate_left
        · rintro w' _
          go_simp
          with_reducible rfl
        rotate_left
        · simp only [Act.put, List.setIfInBounds_toArray, List.set_cons_zero, List.set_cons_succ, i64_w, i32_w]
          rfl
        refine take_ (i := 15) (N := (some 59)) (v := ?_) (a' := ?_) #[true, true, true, true, true, true, true, true, true, true, true, true, true, true, true, true, true, true, true, false, false, false, false] rfl rfl (take_ofW HT_.out HW_.out (by kernel_rfl)) (fun _ _ _ h => h) (Or.inl ⟨by rfl, ?_⟩) hHeld ?_ ?_
        rotate_left
        · rintro w' _
          go_simp
          with_reducible rfl
        rotate_left
        · simp only [Act.put, List.setIfInBounds_toArray, List.set_cons_zero, List.set_cons_succ, i64_w, i32_w]
          rfl
        refine one_ (i := 19) (N := (some 63)) #[true, true, true, true, true, true, true, true, true, true, true, true, true, true, true, true, true, true, true, true, false, false, false] rfl rfl (one_of HT_.out (by kernel_rfl)) (by decide) (fun K hK => ?_)
        refine step_grow .u8 (by rfl) 63 rfl (.tmp 59) (.tmp 62) 22 5 1 rfl Try.underlying22 dg_info AL z left A m c xs rfl rfl (CL.out _ (by repeat (first | exact HBW.out | apply below_drew | apply below_alloc | apply pw_below_drewN))) (CA.out _ (by repeat (first | exact HBW.out | apply below_drew | apply below_alloc | apply pw_below_drewN))) HZ.out.2.1 HKM.out.1 (by have q_ := HKM.out; omega) (by have q_ := HKM.out; simp only [maxLen]; omega) (fun v1 w3 ho1 hb1 => ?_)
        obtain ⟨A6, c6, rfl⟩ := Kd.R_slice ho1
        have hl_ : (left ++ xs).length = z + m := by rw [List.length_append, HZ.out.1, (CA.out _ HBW.out).1]
        have HO := Aside0.mk ho1
        have HBn := Aside0.mk (below_step (by exact (by repeat (first | exact HBW.out | apply below_drew | apply below_alloc | apply pw_below_drewN))) hb1)
        clear ho1 hb1 HBW
        have HBW := HBn
        clear HBn
        have hd3 := CD.out _ HBW.out
        have q8n := (dg_cell hd3 8).trans rfl
        have f8n := dg_free hd3 8
        clear hd3
        refine hK.out _ _ trivial (fun hHeld => ?_)
        clear hK K
        refine norm_ (a' := ?_) ?_ ?_
        rotate_left
        · show Act.put _ (some 63) _ = _
          simp only [Act.put, List.setIfInBounds_toArray, List.set_cons_zero, List.set_cons_succ, i64_w, i32_w]
          rfl
        refine take_ (i := 20) (N := (some 64)) (v := ?_) (a' := ?_) #[true, true, true, true, true, true, true, true, true, true, true, true, true, true, true, true, true, true, true, true, true, false, false] rfl rfl (take_ofW HT_.out HW_.out (by kernel_rfl)) (fun _ _ _ h => h) (Or.inl ⟨by rfl, ?_⟩) hHeld ?_ ?_
        rotate_left
        · rintro w' _
          go_simp
          with_reducible rfl
        rotate_left
        · simp only [Act.put, List.setIfInBounds_toArray, List.set_cons_zero, List.set_cons_succ, i64_w, i32_w]
          rfl
        refine take_ (i := 21) (N := (some 65)) (v := ?_) (a' := ?_) #[true, true, true, true, true, true, true, true, true, true, true, true, true, true, true, true, true, true, true, true, true, true, false] rfl rfl (take_ofW HT_.out HW_.out (by kernel_rfl)) (fun _ _ _ h => h) (Or.inl ⟨by rfl, ?_⟩) hHeld ?_ ?_
        rotate_left
        · rintro w' _
          go_simp
          with_reducible rfl
        rotate_left
        · simp only [Act.put, List.setIfInBounds_toArray, List.set_cons_zero, List.set_cons_succ, i64_w, i32_w]
          rfl
        refine one_ (i := 22) (N := none) #[true, true, true, true, true, true, true, true, true, true, true, true, true, true, true, true, true, true, true, true, true, true, true] rfl rfl (one_of HT_.out (by kernel_rfl)) (by decide) (fun K hK => ?_)
        refine skip_ (by rfl) rfl (w1 := ?_) ?_ ?_
        rotate_left 1
        · (go_simp; first | (with_reducible rfl) | trace_state)
        refine hK.out _ _ trivial (fun hHeld => ?_)
        clear hK K
        refine done_ (done_of HT_.out (by kernel_rfl)) ?_
        go_wp2
        go_meet
        exact ⟨A6, c6, by rw [hl_], by rw [← hl_]; exact ⟨dg_left (CD.out _ HBW.out) (Rc.of (Kd.R_lower HO.out (Nat.le_trans HBS.out HB3.out.size)))⟩, ⟨dg_keep_set (dg_keep_below HK2.out HBW.out)⟩, ⟨dg_bset (dg_below HB3.out HBS.out HBW.out) HD.out _ _⟩, ⟨by rw [← hl_]; exact fun j hj => Nat.le_trans HB3.out.size (Kd.R_base HO.out j hj)⟩⟩
      · skip
        refine value_ (by rfl) rfl (v := ?_) (w1 := ?_) ?_ ?_
        rotate_left 2
        · (go_simp; first | (with_reducible rfl) | (constructor <;> with_reducible rfl))
        refine hK.out _ _ trivial (fun hHeld => ?_)
        clear hK K
        refine norm_ (a' := ?_) ?_ ?_
        rotate_left
        · show Act.put _ (some 52) _ = _
          simp only [Act.put, List.setIfInBounds_toArray, List.set_cons_zero, List.set_cons_succ, i64_w, i32_w]
          rfl
        refine take_ (i := 9) (N := (some 53)) (v := ?_) (a' := ?_) #[true, true, true, true, false, true, true, true, true, true, true, true, true, true, true, false, true, true, true, false, false, false, false] rfl rfl (take_ofW HT_.out HW_.out (by kernel_rfl)) (fun _ _ _ h => h) (Or.inl ⟨by rfl, ?_⟩) hHeld ?_ ?_
        rotate_left
        · rintro w' _
          go_simp
          with_reducible rfl
        rotate_left
        · simp only [Act.put, List.setIfInBounds_toArray, List.set_cons_zero, List.set_cons_succ, i64_w, i32_w]
          rfl
        refine one_ (i := 4) (N := (some 48)) #[true, true, true, true, true, true, true, true, true, true, true, true, true, true, true, false, true, true, true, false, false, false, false] rfl rfl (one_of HT_.out (by kernel_rfl)) (by decide) (fun K hK => ?_)
        refine value_ (by rfl) rfl (v := ?_) (w1 := ?_) ?_ ?_
        rotate_left 2
        · (go_simp; first | (with_reducible rfl) | (constructor <;> with_reducible rfl))
        refine hK.out _ _ trivial (fun hHeld => ?_)
        clear hK K
        refine norm_ (a' := ?_) ?_ ?_
        rotate_left
        · show Act.put _ (some 48) _ = _
          simp only [Act.put, List.setIfInBounds_toArray, List.set_cons_zero, List.set_cons_succ, i64_w, i32_w]
          rfl
        refine take_ (i := 15) (N := (some 59)) (v := ?_) (a' := ?_) #[true, true, true, true, true, true, true, true, true, true, true, true, true, true, true, true, true, true, true, false, false, false, false] rfl rfl (take_ofW HT_.out HW_.out (by kernel_rfl)) (fun _ _ _ h => h) (Or.inl ⟨by rfl, ?_⟩) hHeld ?_ ?_
        rotate_left
        · rintro w' _
          go_simp
          with_reducible rfl
        rotate_left
        · simp only [Act.put, List.setIfInBounds_toArray, List.set_cons_zero, List.set_cons_succ, i64_w, i32_w]
          rfl
        refine one_ (i := 19) (N := (some 63)) #[true, true, true, true, true, true, true, true, true, true, true, true, true, true, true, true, true, true, true, true, false, false, false] rfl rfl (one_of HT_.out (by kernel_rfl)) (by decide) (fun K hK => ?_)
        refine step_grow .u8 (by rfl) 63 rfl (.tmp 59) (.tmp 62) 22 5 1 rfl Try.underlying22 dg_info AL z left A m c xs rfl rfl (CL.out _ (by repeat (first | exact HBW.out | apply below_drew | apply below_alloc | apply pw_below_drewN))) (CA.out _ (by repeat (first | exact HBW.out | apply below_drew | apply below_alloc | apply pw_below_drewN))) HZ.out.2.1 HKM.out.1 (by have q_ := HKM.out; omega) (by have q_ := HKM.out; simp only [maxLen]; omega) (fun v1 w3 ho1 hb1 => ?_)
        obtain ⟨A6, c6, rfl⟩ := Kd.R_slice ho1
        have hl_ : (left ++ xs).length = z + m := by rw [List.length_append, HZ.out.1, (CA.out _ HBW.out).1]
        have HO := Aside0.mk ho1
        have HBn := Aside0.mk (below_step (by exact (by repeat (first | exact HBW.out | apply below_drew | apply below_alloc | apply pw_below_drewN))) hb1)
        clear ho1 hb1 HBW
        have HBW := HBn
        clear HBn
        have hd3 := CD.out _ HBW.out
        have q8n := (dg_cell hd3 8).trans rfl
        have f8n := dg_free hd3 8
        clear hd3
        refine hK.out _ _ trivial (fun hHeld => ?_)
        clear hK K
        refine norm_ (a' := ?_) ?_ ?_
        rotate_left
        · show Act.put _ (some 63) _ = _
          simp only [Act.put, List.setIfInBounds_toArray, List.set_cons_zero, List.set_cons_succ, i64_w, i32_w]
          rfl
        refine take_ (i := 20) (N := (some 64)) (v := ?_) (a' := ?_) #[true, true, true, true, true, true, true, true, true, true, true, true, true, true, true, true, true, true, true, true, true, false, false] rfl rfl (take_ofW HT_.out HW_.out (by kernel_rfl)) (fun _ _ _ h => h) (Or.inl ⟨by rfl, ?_⟩) hHeld ?_ ?_
        rotate_left
        · rintro w' _
          go_simp
          with_reducible rfl
        rotate_left
        · simp only [Act.put, List.setIfInBounds_toArray, List.set_cons_zero, List.set_cons_succ, i64_w, i32_w]
          rfl
        refine take_ (i := 21) (N := (some 65)) (v := ?_) (a' := ?_) #[true, true, true, true, true, true, true, true, true, true, true, true, true, true, true, true, true, true, true, true, true, true, false] rfl rfl (take_ofW HT_.out HW_.out (by kernel_rfl)) (fun _ _ _ h => h) (Or.inl ⟨by rfl, ?_⟩) hHeld ?_ ?_
        rotate_left
        · rintro w' _
          go_simp
          with_reducible rfl
        rotate_left
        · simp only [Act.put, List.setIfInBounds_toArray, List.set_cons_zero, List.set_cons_succ, i64_w, i32_w]
          rfl
        refine one_ (i := 22) (N := none) #[true, true, true, true, true, true, true, true, true, true, true, true, true, true, true, true, true, true, true, true, true, true, true] rfl rfl (one_of HT_.out (by kernel_rfl)) (by decide) (fun K hK => ?_)
        refine skip_ (by rfl) rfl (w1 := ?_) ?_ ?_
        rotate_left 1
        · (go_simp; first | (with_reducible rfl) | trace_state)
        refine hK.out _ _ trivial (fun hHeld => ?_)
        clear hK K
        refine done_ (done_of HT_.out (by kernel_rfl)) ?_
        go_wp2
        go_meet
        exact ⟨A6, c6, by rw [hl_], by rw [← hl_]; exact ⟨dg_left (CD.out _ HBW.out) (Rc.of (Kd.R_lower HO.out (Nat.le_trans HBS.out HB3.out.size)))⟩, ⟨dg_keep_set (dg_keep_below HK2.out HBW.out)⟩, ⟨dg_bset (dg_below HB3.out HBS.out HBW.out) HD.out _ _⟩, ⟨by rw [← hl_]; exact fun j hj => Nat.le_trans HB3.out.size (Kd.R_base HO.out j hj)⟩⟩
  case rest =>
    obtain ⟨A6, c6, rfl, KD, KK, KB, KN⟩ := hcut
    have r8 := (dg_cell KD.out 8).trans rfl
    have jm : (m : Int) ≤ (m : Int) := Int.le_refl _
    have jlt : ((z + m : Nat) : Int) < 64 := by have q_ := HKM.out; omega
    rw [Int.natCast_add] at jlt
    go_wp2
    all_goals
      go_ret
      exact ⟨rfl, _, KD.out, KK.out, KB.out, KN.out⟩
end Go.Proofs.Ytbkchjiiaehhpaa.Obj
