/- Contracts of Go functions that the claims of this seat share. -/
import Derived.Test.YtbkchjiiaehhpaaProg
import Derived.Below
import Derived.Deep.Draws
import Derived.Deep.AppendLies
import Derived.Maps.AppendAt
import Derived.OwnWalk
import Derived.Laws.BytesArg
import Derived.Laws.MakeOwn
import Derived.Laws.OwnMore
import Derived.Deep.OwnRows
import Derived.Tactics
import Derived.Lib.ConvBytes
import Derived.Laws.Slices
import Derived.WalkKit
import Derived.KernelRfl
import Derived.RowKit3
import Derived.Deep.LoopGhost
import Derived.Deep.QuietTactic
import Derived.BigQuiet
import Derived.WideLaws
import Derived.Deep.DeepCutAuto
import Derived.Deep.CutBlock
import Derived.Deep.RegionHeld3
import Derived.Laws.Rows
import Derived.Lib.AppendStr
import Derived.ArgAppend
import Derived.Laws.IdiomCopy
import Derived.OrdersHeld
import Derived.Laws.BitsLemmas
import Derived.RowKit
import Derived.Test.YtbkchjiiaehhpaaWWords
import Derived.Test.YtbkchjiiaehhpaaWLast
import Derived.Test.YtbkchjiiaehhpaaWTab
import Derived.Test.YtbkchjiiaehhpaaWFour
import Derived.Test.YtbkchjiiaehhpaaWQPut
import Derived.Test.YtbkchjiiaehhpaaWApart
import Derived.Test.YtbkchjiiaehhpaaWArr
import Derived.Test.YtbkchjiiaehhpaaWZeros
import Derived.Test.YtbkchjiiaehhpaaWFoot
import Derived.Test.YtbkchjiiaehhpaaWKept
import Derived.Test.YtbkchjiiaehhpaaWShare
import Derived.Test.YtbkchjiiaehhpaaWN
import Derived.Test.YtbkchjiiaehhpaaWFootNe
import Derived.Test.YtbkchjiiaehhpaaWAt
import Derived.Test.YtbkchjiiaehhpaaWEqStruct
import Derived.Test.YtbkchjiiaehhpaaWRepsOne
import Derived.Test.YtbkchjiiaehhpaaWInv
import Derived.Test.YtbkchjiiaehhpaaWInvWords
import Derived.Test.YtbkchjiiaehhpaaWGuard
import Derived.Test.YtbkchjiiaehhpaaWNEv
import Derived.Test.YtbkchjiiaehhpaaWMore
import Derived.Test.YtbkchjiiaehhpaaX0Mem
import Derived.Test.YtbkchjiiaehhpaaX1Pure
import Derived.Test.YtbkchjiiaehhpaaXShaJ
import Derived.Deep.DeepCutAuto
namespace Go.Proofs.Ytbkchjiiaehhpaa.Obj
open Go.RowKit Go.Proofs.YtbkchjiiaehhpaaW.PrintWords Go.Proofs.YtbkchjiiaehhpaaW.PrintLast Go.Proofs.YtbkchjiiaehhpaaW.PrintMore
set_option linter.unusedVariables false
set_option linter.unusedSimpArgs false
def wd.T6 : Bool × List (List Nat × List Nat) := (true, [([], []), ([], []), ([0, 1], [0, 1]), ([2], [2]), ([], []), ([], []), ([4, 5], [4, 5]), ([6], [6]), ([3, 7], [3, 7])])
def wd.B6 : List Nat := [0, 0, 3, 7, 0, 0, 48, 112, 255]
theorem wd.tab6 : rtab .any (opsOf Try.f23 6) = wd.T6 := by kernel_rfl
theorem wd.bits6 : waitsOk wd.T6.2 wd.B6 = true := by kernel_rfl
def sb4.T4 : Bool × List (List Nat × List Nat) := (true, [([], []), ([0], [0]), ([1], [1]), ([], []), ([3], [3]), ([2, 4], [2, 4]), ([], []), ([6, 5, 5, 0, 1, 2, 3, 4, 5, 6], [5, 6])])
def sb4.B4 : List Nat := [0, 1, 3, 0, 8, 31, 0, 127]
theorem sb4.tab4 : rtab .any (opsOf Try.f26 4) = sb4.T4 := by kernel_rfl
theorem sb4.bits4 : waitsOk sb4.T4.2 sb4.B4 = true := by kernel_rfl
open Go.Proofs.Ytbkchjiiaehhpaa.PShaH
set_option maxHeartbeats 8000000 in
set_option maxRecDepth 100000 in
theorem sh_Block_no (A0 A1 : Option Addr) (n m c0 c1 : Nat) (w : World) (h : ¬ (n = 8 ∧ m = 64)) :
    Calls Try.prog 26 #[.slice A0 n c0, .slice A1 m c1] w fun e w' => e = .returned (.tuple #[.slice none 0 0, .int .i64 1]) ∧ Below w.heap.size w w' := by
  by_cases h1 : n = 8
  · subst h1
    have h2 : ¬ (m : Int) = 64 := by omega
    clear h
    go_enter Try.func26, Try.ntmps26
    go_wp2_with fail
    go_ret2
    exact ⟨rfl, Below.refl _ _⟩
  · have h2 : ¬ (n : Int) = 8 := by omega
    clear h h1
    go_enter Try.func26, Try.ntmps26
    go_wp2_with fail
    go_ret2
    exact ⟨rfl, Below.refl _ _⟩
set_option maxHeartbeats 8000000 in
set_option maxRecDepth 100000 in
theorem rf_block_no (A0 A1 : Option Addr) (n m c0 c1 : Nat) (w : World) (h : ¬ (n = 8 ∧ m = 64)) :
    Calls Try.prog 27 #[.slice A0 n c0, .slice A1 m c1] w fun e w' => e = .returned (.tuple #[.slice none 0 0, .int .i64 1]) ∧ Below w.heap.size w w' := by
  by_cases h1 : n = 8
  · subst h1
    have h2 : ¬ (m : Int) = 64 := by omega
    clear h
    go_enter Try.func27, Try.ntmps27
    go_wp2_with fail
    go_ret2
    exact ⟨rfl, Below.refl _ _⟩
  · have h2 : ¬ (n : Int) = 8 := by omega
    clear h h1
    go_enter Try.func27, Try.ntmps27
    go_wp2_with fail
    go_ret2
    exact ⟨rfl, Below.refl _ _⟩
set_option maxHeartbeats 8000000 in
set_option maxRecDepth 100000 in
theorem words_same (A A' : Option Addr) (m c c' : Nat) (xs : List Int) (w : World) (hC : Kd.C (Kd.int .u32) w A m xs) (hC' : Kd.C (Kd.int .u32) w A' m xs) (hm : m ≤ 8) :
    Calls Try.prog 23 #[.slice A m c, .slice A' m c'] w fun e w' => e = .returned (.bool true) ∧ Below w.heap.size w w' := by
  have HC := Aside0.mk hC
  have HC' := Aside0.mk hC'
  have HM := Aside0.mk hm
  clear hC hC' hm
  go_enter Try.func23, Try.ntmps23
  go_wp2_with fail
  go_loopw [5] (fun v5 wr => ∃ k : Nat, k ≤ m ∧ v5 = .int .i64 k ∧ Aside0 (Below w.heap.size w wr)) (fun v5 _ => m - (intOf v5).toNat)
  case atStart => exact ⟨0, Nat.zero_le _, rfl, ⟨Below.refl _ _⟩⟩
  case round =>
    obtain ⟨k, hk, rfl, HB⟩ := hrel
    by_cases hlt : k < m
    · have HA := HC
      have HA' := HC'
      obtain ⟨ad, rfl, hc⟩ := (Kd.reads_of_C (enc := Value.int .u32) (d := (0 : Int)) (h1 := fun _ => rfl) HA.out).2.2 (by omega)
      obtain ⟨ad', rfl, hc'⟩ := (Kd.reads_of_C (enc := Value.int .u32) (d := (0 : Int)) (h1 := fun _ => rfl) HA'.out).2.2 (by omega)
      obtain ⟨x, hx⟩ : ∃ x, xs.getD k 0 = x := ⟨_, rfl⟩
      have q := hc k hlt
      have q' := hc' k hlt
      rw [hx] at q q'
      have C1 : Aside0 (∀ W, Below w.heap.size w W → W.cell? (ad.add k) = some (.int .u32 x)) := ⟨fun W hb => fl_low q hb⟩
      have C2 : Aside0 (∀ W, Below w.heap.size w W → W.cell? (ad'.add k) = some (.int .u32 x)) := ⟨fun W hb => fl_low q' hb⟩
      have i1 : (k : Int) < (m : Int) := by omega
      have HK : Aside0 (k < m ∧ m ≤ 8) := ⟨hlt, HM.out⟩
      clear HA HA' hc hc' hx q q' hlt hk
      go_wp2
      refine start_ (n := 9) (S := fun w' => w'.cell? (ad.add k) = some (.int .u32 x) ∧ w'.cell? (ad'.add k) = some (.int .u32 x)) (ds := []) #[false, false, false, false, false, false, false, false, false] (by kernel_rfl) rfl rfl ⟨C1.out _ (by repeat (first | exact HB.out | apply below_drew | apply below_alloc | apply pw_below_drewN)), C2.out _ (by repeat (first | exact HB.out | apply below_drew | apply below_alloc | apply pw_below_drewN))⟩ (fun hHeld => ?_); refine with_tabW wd.tab6 wd.bits6 (fun HT_ HW_ => ?_)
      refine take_ (i := 0) (N := (some 17)) (v := ?_) (a' := ?_) #[true, false, false, false, false, false, false, false, false] rfl rfl (take_ofW HT_.out HW_.out (by kernel_rfl)) (fun _ _ _ h => h) (Or.inl ⟨by rfl, ?_⟩) hHeld ?_ ?_
      rotate_left
      · rintro w' ⟨s0_, s1_⟩
        go_simp
        with_reducible rfl
      rotate_left
      · simp only [Act.put, List.setIfInBounds_toArray, List.set_cons_zero, List.set_cons_succ, i64_w, i32_w]
        rfl
      refine take_ (i := 1) (N := (some 18)) (v := ?_) (a' := ?_) #[true, true, false, false, false, false, false, false, false] rfl rfl (take_ofW HT_.out HW_.out (by kernel_rfl)) (fun _ _ _ h => h) (Or.inl ⟨by rfl, ?_⟩) hHeld ?_ ?_
      rotate_left
      · rintro w' ⟨s0_, s1_⟩
        go_simp
        with_reducible rfl
      rotate_left
      · simp only [Act.put, List.setIfInBounds_toArray, List.set_cons_zero, List.set_cons_succ, i64_w, i32_w]
        rfl
      refine take_ (i := 2) (N := (some 19)) (v := ?_) (a' := ?_) #[true, true, true, false, false, false, false, false, false] rfl rfl (take_ofW HT_.out HW_.out (by kernel_rfl)) (fun _ _ _ h => h) (Or.inl ⟨by rfl, ?_⟩) hHeld ?_ ?_
      rotate_left
      · rintro w' ⟨s0_, s1_⟩
        go_simp
        with_reducible rfl
      rotate_left
      · simp only [Act.put, List.setIfInBounds_toArray, List.set_cons_zero, List.set_cons_succ, i64_w, i32_w]
        rfl
      refine take_ (i := 3) (N := (some 20)) (v := ?_) (a' := ?_) #[true, true, true, true, false, false, false, false, false] rfl rfl (take_ofW HT_.out HW_.out (by kernel_rfl)) (fun _ _ _ h => h) (Or.inl ⟨by rfl, ?_⟩) hHeld ?_ ?_
      rotate_left
      · rintro w' ⟨s0_, s1_⟩
        go_simp
        with_reducible rfl
      rotate_left
      · simp only [Act.put, List.setIfInBounds_toArray, List.set_cons_zero, List.set_cons_succ, i64_w, i32_w]
        rfl
      refine take_ (i := 4) (N := (some 21)) (v := ?_) (a' := ?_) #[true, true, true, true, true, false, false, false, false] rfl rfl (take_ofW HT_.out HW_.out (by kernel_rfl)) (fun _ _ _ h => h) (Or.inl ⟨by rfl, ?_⟩) hHeld ?_ ?_
      rotate_left
      · rintro w' ⟨s0_, s1_⟩
        go_simp
        with_reducible rfl
      rotate_left
      · simp only [Act.put, List.setIfInBounds_toArray, List.set_cons_zero, List.set_cons_succ, i64_w, i32_w]
        rfl
      refine take_ (i := 5) (N := (some 22)) (v := ?_) (a' := ?_) #[true, true, true, true, true, true, false, false, false] rfl rfl (take_ofW HT_.out HW_.out (by kernel_rfl)) (fun _ _ _ h => h) (Or.inl ⟨by rfl, ?_⟩) hHeld ?_ ?_
      rotate_left
      · rintro w' ⟨s0_, s1_⟩
        go_simp
        with_reducible rfl
      rotate_left
      · simp only [Act.put, List.setIfInBounds_toArray, List.set_cons_zero, List.set_cons_succ, i64_w, i32_w]
        rfl
      refine take_ (i := 6) (N := (some 23)) (v := ?_) (a' := ?_) #[true, true, true, true, true, true, true, false, false] rfl rfl (take_ofW HT_.out HW_.out (by kernel_rfl)) (fun _ _ _ h => h) (Or.inl ⟨by rfl, ?_⟩) hHeld ?_ ?_
      rotate_left
      · rintro w' ⟨s0_, s1_⟩
        go_simp
        with_reducible rfl
      rotate_left
      · simp only [Act.put, List.setIfInBounds_toArray, List.set_cons_zero, List.set_cons_succ, i64_w, i32_w]
        rfl
      refine take_ (i := 7) (N := (some 24)) (v := ?_) (a' := ?_) #[true, true, true, true, true, true, true, true, false] rfl rfl (take_ofW HT_.out HW_.out (by kernel_rfl)) (fun _ _ _ h => h) (Or.inl ⟨by rfl, ?_⟩) hHeld ?_ ?_
      rotate_left
      · rintro w' ⟨s0_, s1_⟩
        go_simp
        with_reducible rfl
      rotate_left
      · simp only [Act.put, List.setIfInBounds_toArray, List.set_cons_zero, List.set_cons_succ, i64_w, i32_w]
        rfl
      refine take_ (i := 8) (N := (some 25)) (v := ?_) (a' := ?_) #[true, true, true, true, true, true, true, true, true] rfl rfl (take_ofW HT_.out HW_.out (by kernel_rfl)) (fun _ _ _ h => h) (Or.inl ⟨by rfl, ?_⟩) hHeld ?_ ?_
      rotate_left
      · rintro w' ⟨s0_, s1_⟩
        go_simp
        with_reducible rfl
      rotate_left
      · simp only [Act.put, List.setIfInBounds_toArray, List.set_cons_zero, List.set_cons_succ, i64_w, i32_w]
        rfl
      refine done_ (done_of HT_.out (by kernel_rfl)) ?_
      have HB2 : Aside0 (Below w.heap.size w wr.drew) := ⟨below_drew HB.out⟩
      go_wp2
      go_roundw
      case rel => exact ⟨k + 1, by have := HK.out; omega, by have := HK.out; rw [x_w64 (by omega) (by omega)]; rfl, HB2⟩
      case measure => have := HK.out; rw [x_w64 (by omega) (by omega)]; simp only [intOf]; omega
    · obtain rfl : k = m := by omega
      have i1 : ¬ (k : Int) < (k : Int) := by omega
      go_wp2
      go_ret
      exact ⟨rfl, HB.out⟩
theorem st_load (W : World) (ad : Addr) (s : W8) (h : ∀ j, j < 8 → W.cell? (ad.add j) = some (.int .u32 ((w8I s).getD j 0))) : (loadVar 100 ad).run Try.prog W = .ok (.agg (w8A s)) W := by
  have hl : (loadCells ad (w8A s).toList.length).run Try.prog W = .ok (w8A s).toList.toArray W :=
    run_loadCells_list (P := Try.prog) W ad (w8A s).toList (fun j v hv => by
      have e : (w8A s).toList = (w8I s).map (Value.int .u32) := rfl
      rw [e] at hv
      have hj : j < 8 := by
        have q := (List.getElem?_eq_some_iff.1 hv).1
        simpa [w8I] using q
      rw [h j hj, ← hv, List.getElem?_map, List.getD_eq_getElem?_getD, List.getElem?_eq_getElem (by simpa [w8I] using hj)]
      rfl)
  have hagg : (isAgg 100).run Try.prog W = .ok true W := by
    unfold isAgg
    rw [Sem.run_bind, run_underlying Try.underlying100 W]
    rfl
  have hi : (Try.prog.info? 100).map (·.size) = some 8 := by kernel_rfl
  cases hq : Try.prog.info? 100 with
  | none => simp [hq] at hi
  | some i =>
    have hs : i.size = 8 := by simpa [hq] using hi
    have h8 : (w8A s).toList.length = 8 := rfl
    rw [h8] at hl
    simp [loadVar, Sem.run_bind, hagg, sizeOf, typeInfo, hq, hs, hl]
section
variable {P : Program} {ops : Array Oper} {o : Oper} {a : Act} {Q : Exit → Act → World → Prop} {Kc : Act → World → Prop}
/-- a load by its own equation, as one step of a region that draws -/
theorem step_load {W : World} (hw : Region.wanted o (yielded ops a.tmps) = true) (N : Tmp) (hN : o.dst = some N) (t : TypeId) (p : Operand) (ho : o.op = .load t p) (ad : Addr) (v : Value) (hp : a.eval p = .pointer (some ad)) (hr : (loadVar t ad).run P W = .ok v W)
    (h : Kc (a.put (some N) v) W) : if Region.wanted o (yielded ops a.tmps) = true then Oper.wp P o a W Kc Q else Kc (a.put (some N) undef) W := by
  rw [if_pos hw]
  unfold Oper.wp execOp
  simp only [ho, hp, Instr.loadAt, Instr.sureAddr, Sem.run_bind, Sem.run_pure, Result.andThen_ok, hr]
  show Kc (a.put o.dst _) _
  rw [hN]
  exact h
end
theorem sh_mixA (s : W8) (Kp A : Addr) (kt : List (BitVec 32)) (xs : List Int) (w : World) (hx : IsB xs) (hl : xs.length = 64) (hC : ∀ j, j < 64 → w.cell? (A.add j) = some (.int .u8 (xs.getD j 0))) (hK : ∀ j, j < 64 → w.cell? (Kp.add j) = some (.int .u32 ((kt.getD j 0).toNat : Int))) :
    Calls Try.prog 60 #[.agg (w8A s), .pointer (some Kp), .pointer (some A)] w fun e w' => e = .returned (.agg (w8A (mixF kt xs s))) ∧ Below w.heap.size w w' := by
  obtain ⟨a, b, c, d, e, f, g, h⟩ := s
  exact sh_mix a b c d e f g h Kp A kt xs w hx hl hC hK
theorem w8A_one (s : W8) : (w8A s).all (·.oneCell') = true := st_one _ _ _ _ _ _ _ _
set_option maxHeartbeats 8000000 in
set_option maxRecDepth 100000 in
theorem sh_Block (s : W8) (A0 A1 : Option Addr) (c0 c1 : Nat) (xs : List Int) (w : World) (hx : IsB xs) (hC0 : Kd.C (Kd.int .u32) w A0 8 (w8I s)) (hc0 : 8 ≤ c0) (hC1 : Kd.C (Kd.int .u8) w A1 64 xs) (hc1 : 64 ≤ c1) :
    Calls Try.prog 26 #[.slice A0 8 c0, .slice A1 64 c1] w fun e w' => ∃ v, e = .returned (.tuple #[v, .int .i64 0]) ∧ Kd.R (Kd.int .u32) 37 w' w.heap.size (fun _ => True) v (w8I (mixF KT xs s)) ∧ Below w.heap.size w w' := by
  have hxl := hC1.1
  obtain ⟨ad0, rfl, hq0⟩ := (Kd.reads_of_C (enc := Value.int .u32) (d := (0 : Int)) (h1 := fun _ => rfl) hC0).2.2 (by decide)
  obtain ⟨ad1, rfl, hq1⟩ := (Kd.reads_of_C (enc := Value.int .u8) (d := (0 : Int)) (h1 := fun _ => rfl) hC1).2.2 (by decide)
  have CS : Aside0 (∀ W, Below w.heap.size w W → (loadVar 100 ad0).run Try.prog W = .ok (.agg (w8A s)) W) := ⟨fun W hb => st_load W ad0 s (fun j hj => fl_low (hq0 j hj) hb)⟩
  have CB : Aside0 (∀ j, j < 64 → ∀ W, Below w.heap.size w W → W.cell? (ad1.add j) = some (.int .u8 (xs.getD j 0))) := ⟨fun j hj W hb => fl_low (hq1 j hj) hb⟩
  have HX := Aside0.mk hx
  have HL := Aside0.mk hxl
  have I1 : Aside0 ((Try.prog.info? 38).map (·.size) = some 64) := ⟨by kernel_rfl⟩
  have I2 : Aside0 ((Try.prog.info? 100).map (·.size) = some 8) := ⟨by kernel_rfl⟩
  clear hC0 hC1 hq0 hq1 hx hxl
  have har8 := fun W : World => arr_at8 W ad1 64 c1 (Nat.le_refl _)
  have harS := fun W : World => arr_atS W ad0 8 c0 (Nat.le_refl _)
  obtain ⟨r, hr⟩ : ∃ r, mixF KT xs s = r := ⟨_, rfl⟩
  have HR := Aside0.mk hr
  rw [hr]
  clear hr
  obtain ⟨a, b, cc, d, e, f, g, h⟩ := s
  go_enter Try.func26, Try.ntmps26
  go_upto_region 4 with (first
    | (go_at_call 59; (with_reducible refine (sh_table _).mono ?_); rintro e w1 ⟨rfl, hb⟩; have HB1 := Aside0.mk hb; clear hb; obtain ⟨R, hR⟩ : ∃ R, row64 KT = R := ⟨_, rfl⟩; have HRR := Aside0.mk hR; have HS := Aside0.mk (show R.size = 64 by rw [← hR, row_size KT (by decide)]); have HO := Aside0.mk (show R.all (·.oneCell') = true by rw [← hR]; exact row_one _); rw [hR]; clear hR)
    | ((with_reducible refine gate_store (t := 38) (p := 6) (v := .tmp 16) rfl ?_); refine x_arrStore rfl 38 (.tmp 6) (.tmp 16) rfl w1.heap.size (row64 []) R rfl rfl (heap_alloc_new _ _) (by rw [HS.out]; exact I1.out) (by rw [HS.out, row_size [] (by simp)]) HO.out ?_; intro W2 hh2 hg2; have GH := Aside0.mk hh2; have GG := Aside0.mk hg2; clear hh2 hg2))
  have hb2 : Below w.heap.size w W2 := grown_below (HB1.out.alloc HB1.out.size _) GG.out HB1.out.size
  have hh2 := GH.out
  rw [← HRR.out] at hh2
  obtain ⟨B6, hB6⟩ : ∃ B6, w1.heap.size = B6 := ⟨_, rfl⟩
  rw [hB6] at hh2 ⊢
  have G6 := Aside0.mk hh2
  have HB := Aside0.mk hb2
  clear hh2 hb2 GG GH HRR HS HO HB1 hB6
  go_simp
  go_cut [7] (fun s7 wx => ∃ B7 : Nat, s7 = .pointer (some ⟨B7, 0, none⟩) ∧ Aside0 (wx.heap[B7]? = some (.cells (w8A r) 100 (0, 0))) ∧ Aside0 (Below w.heap.size w wx))
  case first =>
    refine start_ (n := 8) (S := fun w' => True) (ds := []) #[false, false, false, false, false, false, false, false] (by kernel_rfl) rfl rfl trivial (fun hHeld => ?_); refine with_tabW sb4.tab4 sb4.bits4 (fun HT_ HW_ => ?_)
    refine take_ (i := 0) (N := (some 17)) (v := ?_) (a' := ?_) #[true, false, false, false, false, false, false, false] rfl rfl (take_ofW HT_.out HW_.out (by kernel_rfl)) (fun _ _ _ h => h) (Or.inl ⟨by rfl, ?_⟩) hHeld ?_ ?_
    rotate_left
    · rintro w' _
      go_simp
      with_reducible rfl
    rotate_left
    · simp only [Act.put, List.setIfInBounds_toArray, List.set_cons_zero, List.set_cons_succ, i64_w, i32_w]
      rfl
    refine take_ (i := 1) (N := (some 18)) (v := ?_) (a' := ?_) #[true, true, false, false, false, false, false, false] rfl rfl (take_ofW HT_.out HW_.out (by kernel_rfl)) (fun _ _ _ h => h) (Or.inl ⟨by rfl, ?_⟩) hHeld ?_ ?_
    rotate_left
    · rintro w' _
      go_simp
      with_reducible rfl
    rotate_left
    · simp only [Act.put, List.setIfInBounds_toArray, List.set_cons_zero, List.set_cons_succ, i64_w, i32_w]
      rfl
    refine take_ (i := 3) (N := (some 20)) (v := ?_) (a' := ?_) #[true, true, false, true, false, false, false, false] rfl rfl (take_ofW HT_.out HW_.out (by kernel_rfl)) (fun _ _ _ h => h) (Or.inl ⟨by rfl, ?_⟩) hHeld ?_ ?_
    rotate_left
    · rintro w' _
      go_simp
      with_reducible rfl
    rotate_left
    · simp only [Act.put, List.setIfInBounds_toArray, List.set_cons_zero, List.set_cons_succ, i64_w, i32_w]
      rfl
    refine take_ (i := 4) (N := (some 21)) (v := ?_) (a' := ?_) #[true, true, false, true, true, false, false, false] rfl rfl (take_ofW HT_.out HW_.out (by kernel_rfl)) (fun _ _ _ h => h) (Or.inl ⟨by rfl, ?_⟩) hHeld ?_ ?_
    rotate_left
    · rintro w' _
      go_simp
      with_reducible rfl
    rotate_left
    · simp only [Act.put, List.setIfInBounds_toArray, List.set_cons_zero, List.set_cons_succ, i64_w, i32_w]
      rfl
    refine two_ (i := 2) (j := 6) (Ni := (some 19)) (Nj := (some 7)) #[true, true, true, true, true, false, false, false] #[true, true, false, true, true, false, true, false] rfl rfl rfl rfl (two_of HT_.out (by kernel_rfl)) (by decide) (by decide) (fun K hK => ?_)  (fun K hK => ?_)
    · skip
      refine step_load (by rfl) 19 rfl 100 (.tmp 18) rfl ad0 (.agg (w8A ⟨a, b, cc, d, e, f, g, h⟩)) rfl (CS.out _ (by repeat (first | exact HB.out | apply below_drew | apply below_alloc | apply pw_below_drewN))) ?_
      refine hK.out _ _ trivial (fun hHeld => ?_)
      clear hK K
      refine norm_ (a' := ?_) ?_ ?_
      rotate_left
      · show Act.put _ (some 19) _ = _
        simp only [Act.put, List.setIfInBounds_toArray, List.set_cons_zero, List.set_cons_succ, i64_w, i32_w]
        rfl
      refine two_ (i := 5) (j := 6) (Ni := (some 22)) (Nj := (some 7)) #[true, true, true, true, true, true, false, false] #[true, true, true, true, true, false, true, false] rfl rfl rfl rfl (two_of HT_.out (by kernel_rfl)) (by decide) (by decide) (fun K hK => ?_)  (fun K hK => ?_)
      · skip
        refine goes_ Try.func60 (by kernel_rfl) rfl #[.agg (w8A ⟨a, b, cc, d, e, f, g, h⟩), .pointer (some ⟨B6, 0, none⟩), .pointer (some ad1)] (by rfl) rfl rfl (by first | rfl | (simp only [List.map_toArray, List.map_cons, List.map_nil]; try rfl)) ?_
        (with_reducible refine (sh_mixA ⟨a, b, cc, d, e, f, g, h⟩ ⟨B6, 0, none⟩ ad1 KT xs _ HX.out HL.out (fun j hj => CB.out j hj _ (by repeat (first | exact HB.out | apply below_drew | apply below_alloc | apply pw_below_drewN))) (fun j hj => by rw [Addr.add_mid, Nat.zero_add]; exact row_at (by first | exact G6.out | exact blk_below G6.out (by repeat (first | exact Below.refl _ _ | apply below_drew | apply below_alloc | apply pw_below_drewN))) (by simpa [KT] using hj))).mono ?_)
        rintro e_ w_ ⟨rfl, hb⟩
        rw [HR.out]
        (try (have g_ := Aside0.mk (blk_below (by exact G6.out) hb); clear G6; have G6 := g_; clear g_))
        (try (have g_ := Aside0.mk (blk_below (by exact G7.out) hb); clear G7; have G7 := g_; clear g_))
        have HBn := Aside0.mk (below_step (by repeat (first | exact HB.out | apply below_drew | apply below_alloc | apply pw_below_drewN)) hb)
        clear HB hb
        have HB := HBn
        clear HBn
        refine ⟨_, rfl, ?_⟩
        refine hK.out _ _ trivial (fun hHeld => ?_)
        clear hK K
        refine norm_ (a' := ?_) ?_ ?_
        rotate_left
        · show Act.put _ (some 22) _ = _
          simp only [Act.put, List.setIfInBounds_toArray, List.set_cons_zero, List.set_cons_succ, i64_w, i32_w]
          rfl
        refine one_ (i := 6) (N := (some 7)) #[true, true, true, true, true, true, true, false] rfl rfl (one_of HT_.out (by kernel_rfl)) (by decide) (fun K hK => ?_)
        refine step_alloc (by rfl) 7 rfl _ _ (by go_simp; with_reducible rfl) (fun B7 w_ hh7 hle hb => ?_)
        have M7 : Aside0 (w.heap.size ≤ B7) := ⟨Nat.le_trans (by exact HB.out.size) hle⟩
        (try (have g_ := Aside0.mk (blk_below (by exact G6.out) hb); clear G6; have G6 := g_; clear g_))
        (try (have g_ := Aside0.mk (blk_below (by exact G7.out) hb); clear G7; have G7 := g_; clear g_))
        have HBn := Aside0.mk (below_step (by repeat (first | exact HB.out | apply below_drew | apply below_alloc | apply pw_below_drewN)) hb)
        clear HB hb
        have HB := HBn
        clear HBn
        have G7 := Aside0.mk hh7
        clear hh7 hle
        refine hK.out _ _ trivial (fun hHeld => ?_)
        clear hK K
        refine norm_ (a' := ?_) ?_ ?_
        rotate_left
        · show Act.put _ (some 7) _ = _
          simp only [Act.put, List.setIfInBounds_toArray, List.set_cons_zero, List.set_cons_succ, i64_w, i32_w]
          rfl
        refine one_ (i := 7) (N := none) #[true, true, true, true, true, true, true, true] rfl rfl (one_of HT_.out (by kernel_rfl)) (by decide) (fun K hK => ?_)
        refine step_arrStore (by rfl) rfl 100 (.tmp 7) (.tmp 22) rfl B7 #[.int .u32 0, .int .u32 0, .int .u32 0, .int .u32 0, .int .u32 0, .int .u32 0, .int .u32 0, .int .u32 0] (w8A r) rfl rfl (by exact G7.out) I2.out rfl (w8A_one _) (fun w_ hh hg => ?_)
        have hb_ := Aside0.mk (grown_below (by exact HB.out) hg M7.out)
        clear HB G6 G7 hg
        have HB := hb_
        have G7 := Aside0.mk hh
        clear hb_ hh
        refine hK.out _ _ trivial (fun hHeld => ?_)
        clear hK K
        refine done_ (done_of HT_.out (by kernel_rfl)) ?_
        go_wp2
        go_meet
        exact ⟨B7, rfl, G7, HB⟩
      · skip
        refine step_alloc (by rfl) 7 rfl _ _ (by go_simp; with_reducible rfl) (fun B7 w_ hh7 hle hb => ?_)
        have M7 : Aside0 (w.heap.size ≤ B7) := ⟨Nat.le_trans (by exact HB.out.size) hle⟩
        (try (have g_ := Aside0.mk (blk_below (by exact G6.out) hb); clear G6; have G6 := g_; clear g_))
        (try (have g_ := Aside0.mk (blk_below (by exact G7.out) hb); clear G7; have G7 := g_; clear g_))
        have HBn := Aside0.mk (below_step (by repeat (first | exact HB.out | apply below_drew | apply below_alloc | apply pw_below_drewN)) hb)
        clear HB hb
        have HB := HBn
        clear HBn
        have G7 := Aside0.mk hh7
        clear hh7 hle
        refine hK.out _ _ trivial (fun hHeld => ?_)
        clear hK K
        refine norm_ (a' := ?_) ?_ ?_
        rotate_left
        · show Act.put _ (some 7) _ = _
          simp only [Act.put, List.setIfInBounds_toArray, List.set_cons_zero, List.set_cons_succ, i64_w, i32_w]
          rfl
        refine one_ (i := 5) (N := (some 22)) #[true, true, true, true, true, true, true, false] rfl rfl (one_of HT_.out (by kernel_rfl)) (by decide) (fun K hK => ?_)
        refine goes_ Try.func60 (by kernel_rfl) rfl #[.agg (w8A ⟨a, b, cc, d, e, f, g, h⟩), .pointer (some ⟨B6, 0, none⟩), .pointer (some ad1)] (by rfl) rfl rfl (by first | rfl | (simp only [List.map_toArray, List.map_cons, List.map_nil]; try rfl)) ?_
        (with_reducible refine (sh_mixA ⟨a, b, cc, d, e, f, g, h⟩ ⟨B6, 0, none⟩ ad1 KT xs _ HX.out HL.out (fun j hj => CB.out j hj _ (by repeat (first | exact HB.out | apply below_drew | apply below_alloc | apply pw_below_drewN))) (fun j hj => by rw [Addr.add_mid, Nat.zero_add]; exact row_at (by first | exact G6.out | exact blk_below G6.out (by repeat (first | exact Below.refl _ _ | apply below_drew | apply below_alloc | apply pw_below_drewN))) (by simpa [KT] using hj))).mono ?_)
        rintro e_ w_ ⟨rfl, hb⟩
        rw [HR.out]
        (try (have g_ := Aside0.mk (blk_below (by exact G6.out) hb); clear G6; have G6 := g_; clear g_))
        (try (have g_ := Aside0.mk (blk_below (by exact G7.out) hb); clear G7; have G7 := g_; clear g_))
        have HBn := Aside0.mk (below_step (by repeat (first | exact HB.out | apply below_drew | apply below_alloc | apply pw_below_drewN)) hb)
        clear HB hb
        have HB := HBn
        clear HBn
        refine ⟨_, rfl, ?_⟩
        refine hK.out _ _ trivial (fun hHeld => ?_)
        clear hK K
        refine norm_ (a' := ?_) ?_ ?_
        rotate_left
        · show Act.put _ (some 22) _ = _
          simp only [Act.put, List.setIfInBounds_toArray, List.set_cons_zero, List.set_cons_succ, i64_w, i32_w]
          rfl
        refine one_ (i := 7) (N := none) #[true, true, true, true, true, true, true, true] rfl rfl (one_of HT_.out (by kernel_rfl)) (by decide) (fun K hK => ?_)
        refine step_arrStore (by rfl) rfl 100 (.tmp 7) (.tmp 22) rfl B7 #[.int .u32 0, .int .u32 0, .int .u32 0, .int .u32 0, .int .u32 0, .int .u32 0, .int .u32 0, .int .u32 0] (w8A r) rfl rfl (by exact G7.out) I2.out rfl (w8A_one _) (fun w_ hh hg => ?_)
        have hb_ := Aside0.mk (grown_below (by exact HB.out) hg M7.out)
        clear HB G6 G7 hg
        have HB := hb_
        have G7 := Aside0.mk hh
        clear hb_ hh
        refine hK.out _ _ trivial (fun hHeld => ?_)
        clear hK K
        refine done_ (done_of HT_.out (by kernel_rfl)) ?_
        go_wp2
        go_meet
        exact ⟨B7, rfl, G7, HB⟩
    · skip
      refine step_alloc (by rfl) 7 rfl _ _ (by go_simp; with_reducible rfl) (fun B7 w_ hh7 hle hb => ?_)
      have M7 : Aside0 (w.heap.size ≤ B7) := ⟨Nat.le_trans (by exact HB.out.size) hle⟩
      (try (have g_ := Aside0.mk (blk_below (by exact G6.out) hb); clear G6; have G6 := g_; clear g_))
      (try (have g_ := Aside0.mk (blk_below (by exact G7.out) hb); clear G7; have G7 := g_; clear g_))
      have HBn := Aside0.mk (below_step (by repeat (first | exact HB.out | apply below_drew | apply below_alloc | apply pw_below_drewN)) hb)
      clear HB hb
      have HB := HBn
      clear HBn
      have G7 := Aside0.mk hh7
      clear hh7 hle
      refine hK.out _ _ trivial (fun hHeld => ?_)
      clear hK K
      refine norm_ (a' := ?_) ?_ ?_
      rotate_left
      · show Act.put _ (some 7) _ = _
        simp only [Act.put, List.setIfInBounds_toArray, List.set_cons_zero, List.set_cons_succ, i64_w, i32_w]
        rfl
      refine one_ (i := 2) (N := (some 19)) #[true, true, true, true, true, false, true, false] rfl rfl (one_of HT_.out (by kernel_rfl)) (by decide) (fun K hK => ?_)
      refine step_load (by rfl) 19 rfl 100 (.tmp 18) rfl ad0 (.agg (w8A ⟨a, b, cc, d, e, f, g, h⟩)) rfl (CS.out _ (by repeat (first | exact HB.out | apply below_drew | apply below_alloc | apply pw_below_drewN))) ?_
      refine hK.out _ _ trivial (fun hHeld => ?_)
      clear hK K
      refine norm_ (a' := ?_) ?_ ?_
      rotate_left
      · show Act.put _ (some 19) _ = _
        simp only [Act.put, List.setIfInBounds_toArray, List.set_cons_zero, List.set_cons_succ, i64_w, i32_w]
        rfl
      refine one_ (i := 5) (N := (some 22)) #[true, true, true, true, true, true, true, false] rfl rfl (one_of HT_.out (by kernel_rfl)) (by decide) (fun K hK => ?_)
      refine goes_ Try.func60 (by kernel_rfl) rfl #[.agg (w8A ⟨a, b, cc, d, e, f, g, h⟩), .pointer (some ⟨B6, 0, none⟩), .pointer (some ad1)] (by rfl) rfl rfl (by first | rfl | (simp only [List.map_toArray, List.map_cons, List.map_nil]; try rfl)) ?_
      (with_reducible refine (sh_mixA ⟨a, b, cc, d, e, f, g, h⟩ ⟨B6, 0, none⟩ ad1 KT xs _ HX.out HL.out (fun j hj => CB.out j hj _ (by repeat (first | exact HB.out | apply below_drew | apply below_alloc | apply pw_below_drewN))) (fun j hj => by rw [Addr.add_mid, Nat.zero_add]; exact row_at (by first | exact G6.out | exact blk_below G6.out (by repeat (first | exact Below.refl _ _ | apply below_drew | apply below_alloc | apply pw_below_drewN))) (by simpa [KT] using hj))).mono ?_)
      rintro e_ w_ ⟨rfl, hb⟩
      rw [HR.out]
      (try (have g_ := Aside0.mk (blk_below (by exact G6.out) hb); clear G6; have G6 := g_; clear g_))
      (try (have g_ := Aside0.mk (blk_below (by exact G7.out) hb); clear G7; have G7 := g_; clear g_))
      have HBn := Aside0.mk (below_step (by repeat (first | exact HB.out | apply below_drew | apply below_alloc | apply pw_below_drewN)) hb)
      clear HB hb
      have HB := HBn
      clear HBn
      refine ⟨_, rfl, ?_⟩
      refine hK.out _ _ trivial (fun hHeld => ?_)
      clear hK K
      refine norm_ (a' := ?_) ?_ ?_
      rotate_left
      · show Act.put _ (some 22) _ = _
        simp only [Act.put, List.setIfInBounds_toArray, List.set_cons_zero, List.set_cons_succ, i64_w, i32_w]
        rfl
      refine one_ (i := 7) (N := none) #[true, true, true, true, true, true, true, true] rfl rfl (one_of HT_.out (by kernel_rfl)) (by decide) (fun K hK => ?_)
      refine step_arrStore (by rfl) rfl 100 (.tmp 7) (.tmp 22) rfl B7 #[.int .u32 0, .int .u32 0, .int .u32 0, .int .u32 0, .int .u32 0, .int .u32 0, .int .u32 0, .int .u32 0] (w8A r) rfl rfl (by exact G7.out) I2.out rfl (w8A_one _) (fun w_ hh hg => ?_)
      have hb_ := Aside0.mk (grown_below (by exact HB.out) hg M7.out)
      clear HB G6 G7 hg
      have HB := hb_
      have G7 := Aside0.mk hh
      clear hb_ hh
      refine hK.out _ _ trivial (fun hHeld => ?_)
      clear hK K
      refine done_ (done_of HT_.out (by kernel_rfl)) ?_
      go_wp2
      go_meet
      exact ⟨B7, rfl, G7, HB⟩
  case rest =>
    clear G6 HB
    obtain ⟨B7, rfl, G7, HB⟩ := hcut
    go_wp2_with ((with_reducible refine gate_dst (N := 24) rfl ?_); (refine x_append .u32 w.heap.size rfl (.const (.slice none 0 0)) (.tmp 23) 35 37 4 rfl Try.underlying35 r8_info (by decide) (.slice none 0 0) [] (w8I r) (some ⟨B7, 0, none⟩) 8 8 rfl rfl (Kd.R_nil _ _ _ _ _) (st_C (blk_below G7.out (by repeat (first | exact Below.refl _ _ | apply below_drew)))) (by repeat (first | exact HB.out | apply below_drew)) (by have q_ := HB.out.size; exact q_) (by simp) ?_); intro v2 W3 ho2 hb2 hg2 hn2; rw [List.nil_append] at ho2; have HO2 := Aside0.mk ho2; have HB3 := Aside0.mk hb2; clear ho2 hb2 hg2 hn2)
    go_ret2
    exact ⟨_, rfl, HO2.out, HB3.out⟩
end Go.Proofs.Ytbkchjiiaehhpaa.Obj
