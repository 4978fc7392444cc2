/- Contracts of Go functions that the claims of this seat share. -/
import Derived.Test.YtbkchjiiaehhpaaProg
import Derived.Below
import Derived.Deep.Draws
import Derived.Deep.AppendLies
import Derived.Maps.AppendAt
import Derived.OwnWalk
import Derived.Laws.BytesArg
import Derived.Laws.MakeOwn
import Derived.Laws.OwnMore
import Derived.Deep.OwnRows
import Derived.Tactics
import Derived.Lib.ConvBytes
import Derived.Laws.Slices
import Derived.WalkKit
import Derived.KernelRfl
import Derived.RowKit3
import Derived.Deep.LoopGhost
import Derived.Deep.QuietTactic
import Derived.BigQuiet
import Derived.WideLaws
import Derived.Deep.DeepCutAuto
import Derived.Deep.CutBlock
import Derived.Deep.RegionHeld3
import Derived.Laws.Rows
import Derived.Lib.AppendStr
import Derived.ArgAppend
import Derived.Laws.IdiomCopy
import Derived.OrdersHeld
import Derived.Laws.BitsLemmas
import Derived.RowKit
import Derived.Test.YtbkchjiiaehhpaaWWords
import Derived.Test.YtbkchjiiaehhpaaWLast
import Derived.Test.YtbkchjiiaehhpaaWTab
import Derived.Test.YtbkchjiiaehhpaaWFour
import Derived.Test.YtbkchjiiaehhpaaWQPut
import Derived.Test.YtbkchjiiaehhpaaWApart
import Derived.Test.YtbkchjiiaehhpaaWArr
import Derived.Test.YtbkchjiiaehhpaaWZeros
import Derived.Test.YtbkchjiiaehhpaaWFoot
import Derived.Test.YtbkchjiiaehhpaaWKept
import Derived.Test.YtbkchjiiaehhpaaWShare
import Derived.Test.YtbkchjiiaehhpaaWN
import Derived.Test.YtbkchjiiaehhpaaWFootNe
import Derived.Test.YtbkchjiiaehhpaaWAt
import Derived.Test.YtbkchjiiaehhpaaWEqStruct
import Derived.Test.YtbkchjiiaehhpaaWRepsOne
import Derived.Test.YtbkchjiiaehhpaaWInv
import Derived.Test.YtbkchjiiaehhpaaWInvWords
import Derived.Test.YtbkchjiiaehhpaaWGuard
import Derived.Test.YtbkchjiiaehhpaaWNEv
import Derived.Test.YtbkchjiiaehhpaaWMore
import Derived.Test.YtbkchjiiaehhpaaX0Mem
import Derived.Test.YtbkchjiiaehhpaaX1Pure
import Derived.Test.YtbkchjiiaehhpaaXAgrA
import Derived.Deep.DeepCutAuto
namespace Go.Proofs.Ytbkchjiiaehhpaa.Obj
open Go.RowKit Go.Proofs.YtbkchjiiaehhpaaW.PrintWords Go.Proofs.YtbkchjiiaehhpaaW.PrintLast Go.Proofs.YtbkchjiiaehhpaaW.PrintMore
set_option linter.unusedVariables false
set_option linter.unusedSimpArgs false
def cm1.T11 : Bool × List (List Nat × List Nat) := (true, [([], []), ([], []), ([0, 1], [0, 1]), ([2], [2]), ([], []), ([4], [4]), ([5], [5]), ([6], [6]), ([7], [7]), ([], []), ([9], [9]), ([10], [10]), ([11], [11]), ([12], [12]), ([8, 13], [8, 13]), ([3, 14], [3, 14]), ([15, 2, 0, 1, 2, 3, 4, 5, 6, 7, 8, 9, 10, 11, 12, 13, 14, 15], [15])])
def cm1.B11 : List Nat := [0, 0, 3, 7, 0, 16, 48, 112, 240, 0, 512, 1536, 3584, 7680, 16368, 32767, 65535]
theorem cm1.tab11 : rtab .any (opsOf Try.f37 11) = cm1.T11 := by kernel_rfl
theorem cm1.bits11 : waitsOk cm1.T11.2 cm1.B11 = true := by kernel_rfl
def cm2.T11 : Bool × List (List Nat × List Nat) := (true, [([], []), ([], []), ([0, 1], [0, 1]), ([2], [2]), ([], []), ([4], [4]), ([5], [5]), ([6], [6]), ([7], [7]), ([], []), ([9], [9]), ([10], [10]), ([11], [11]), ([12], [12]), ([8, 13], [8, 13]), ([3, 14], [3, 14]), ([15, 2, 0, 1, 2, 3, 4, 5, 6, 7, 8, 9, 10, 11, 12, 13, 14, 15], [15])])
def cm2.B11 : List Nat := [0, 0, 3, 7, 0, 16, 48, 112, 240, 0, 512, 1536, 3584, 7680, 16368, 32767, 65535]
theorem cm2.tab11 : rtab .any (opsOf Try.f37 11) = cm2.T11 := by kernel_rfl
theorem cm2.bits11 : waitsOk cm2.T11.2 cm2.B11 = true := by kernel_rfl
open Go.Maps Go.WideMaps
set_option maxHeartbeats 4000000 in
set_option maxRecDepth 100000 in
theorem ag_votes (A base bm n : Nat) (c : List Int) (i last v : Int) (D : DataW Unit) (r : Int) (vt : List Int) (what : Int) (w : World) (h : AG w base A c i bm n D last v) (ht : Tells D r vt) (hr : -9223372036854775808 ≤ r ∧ r ≤ 9223372036854775807) :
    Calls Try.prog 41 #[.pointer (some ⟨A, 0, none⟩), .int .i64 r, .int .i64 what] w fun e w' => e = .returned (.int .i64 (cntV vt what : Int)) ∧ Below w.heap.size w w' := by
  obtain ⟨c0, c1, c2, c3, c4, c5, c6, c7, c8, c9, _, g0, g1, g3, g10, g11, g12, g13, g14⟩ := ag_cells h
  have H := Aside0.mk h
  have HT := Aside0.mk ht
  have HL := Aside0.mk ht.1
  have HR := Aside0.mk hr
  clear h ht hr
  go_enter Try.func41, Try.ntmps41
  go_wp2_with (first
    | (go_at_call 87; (with_reducible refine (ag_none A bm _ g11).mono ?_); rintro e w ⟨rfl, rfl⟩)
    | (go_at_call 89; (with_reducible refine (ag_of A base bm n c i last v D r vt _ H.out HT.out HR.out).mono ?_); rintro e w1 ⟨rfl, hb⟩; have HB1 := Aside0.mk hb; clear hb)
    | (go_at_call 90; (with_reducible refine (ag_count vt HL.out what _).mono ?_); rintro e w2 ⟨rfl, hb⟩; have HB2 := Aside0.mk (below_step HB1.out hb); clear hb))
  go_ret
  exact ⟨rfl, HB2.out⟩
theorem ag_countA (vt : List Int) (hl : vt.length = 8) (what : Int) (w : World) : Calls Try.prog 90 #[.agg (nums .i64 vt).toArray, .int .i64 what] w fun e w' => e = .returned (.int .i64 (cntV vt what : Int)) ∧ Below w.heap.size w w' := ag_count vt hl what w
theorem AG.set {w : World} {base A bm n : Nat} {c : List Int} {i last v : Int} {D : DataW Unit} (h : AG w base A c i bm n D last v) (last' v' : Int) : AG ((w.setCell ⟨A, 13, none⟩ (.int .i64 last')).setCell ⟨A, 14, none⟩ (.int .i64 v')) base A c i bm n D last' v' := by
  obtain ⟨h1, h2, h3, h4, h5⟩ := h
  have hne : bm ≠ A := AM.ne h5 h4
  have q1 := blk_set h4 13 (.int .i64 last')
  have q2 := blk_set q1 14 (.int .i64 v')
  obtain ⟨es, cl, h6, h7⟩ := h5
  refine ⟨h1, h2, h3, ?_, es, cl, ?_, h7⟩
  · rw [q2]
    match c, h3 with
    | [c0, c1, c2, c3, c4, c5, c6, c7, c8, c9], _ => rfl
  · rw [Below.heap_setCell _ ⟨A, 14, none⟩ _ bm hne, Below.heap_setCell _ ⟨A, 13, none⟩ _ bm hne]
    exact h6
set_option maxHeartbeats 4000000 in
set_option maxRecDepth 100000 in
theorem ag_isRound (r : Int) (w : World) (h0 : 0 ≤ r) (h1 : r < 1048576) : Calls Try.prog 88 #[.int .i64 r] w fun e w' => e = .returned (.bool true) ∧ w' = w := by
  go_enter Try.func88, Try.ntmps88
  go_wp2
  go_ret
  exact ⟨rfl, rfl⟩
set_option maxHeartbeats 8000000 in
set_option maxRecDepth 100000 in
theorem ag_commit (A base bm n : Nat) (c : List Int) (i v last : Int) (iN : Nat) (D : DataW Unit) (q : Int) (vt : List Int) (w : World) (h : AG w base A c i bm n D last v) (ht : Tells D (q + c.getD 3 0 + 1) vt) (hq : 0 ≤ q ∧ q < 1048576) (hlast : last < q) (hd : 0 ≤ c.getD 3 0 ∧ c.getD 3 0 ≤ 4) (hc0 : 0 ≤ c.getD 0 0 ∧ c.getD 0 0 ≤ 8) (hc1 : 0 ≤ c.getD 1 0 ∧ c.getD 1 0 ≤ 8) (hi : i = (iN : Int)) (hi8 : iN < 8) :
    Calls Try.prog 37 #[.pointer (some ⟨A, 0, none⟩), .int .i64 q] w fun e w' =>
      (vt.getD iN 0 = -1 ∧ e = .returned (.tuple #[.int .i64 0, .bool false, .int .i64 6]) ∧ Below w.heap.size w w') ∨
      (vt.getD iN 0 ≠ -1 ∧ ¬ (c.getD 0 0 + c.getD 1 0 < 2 * (cntV vt (vt.getD iN 0) : Int)) ∧ e = .returned (.tuple #[.int .i64 (vt.getD iN 0), .bool false, .int .i64 0]) ∧ Below w.heap.size w w') ∨
      (vt.getD iN 0 ≠ -1 ∧ c.getD 0 0 + c.getD 1 0 < 2 * (cntV vt (vt.getD iN 0) : Int) ∧ e = .returned (.tuple #[.int .i64 (vt.getD iN 0), .bool true, .int .i64 0]) ∧ AG w' base A c i bm n D q (vt.getD iN 0) ∧ KeepBut w w' A none ∧ Below base w w') := by
  have hu := Try.underlying63
  have hu2 := Try.underlying60
  obtain ⟨c0, c1, c2, c3, c4, c5, c6, c7, c8, c9, rfl, g0, g1, g3, g10, g11, g12, g13, g14⟩ := ag_cells h
  subst hi
  have e0 : ([c0, c1, c2, c3, c4, c5, c6, c7, c8, c9] : List Int).getD 0 0 = c0 := rfl
  have e1 : ([c0, c1, c2, c3, c4, c5, c6, c7, c8, c9] : List Int).getD 1 0 = c1 := rfl
  have e3 : ([c0, c1, c2, c3, c4, c5, c6, c7, c8, c9] : List Int).getD 3 0 = c3 := rfl
  rw [e3] at hd ht
  rw [e0] at hc0
  rw [e1] at hc1
  rw [e0, e1]
  have H := Aside0.mk h
  have HT := Aside0.mk ht
  have HL := Aside0.mk ht.1
  have HQ := Aside0.mk hq
  have HC := Aside0.mk (And.intro hc0 hc1)
  have HBS := Aside0.mk (Nat.le_trans h.1 (Nat.le_of_lt (blk_lt h.2.2.2.1)))
  have hr2 : -9223372036854775808 ≤ q + c3 + 1 ∧ q + c3 + 1 ≤ 9223372036854775807 := by omega
  have HR := Aside0.mk hr2
  have k1 : 0 ≤ q := hq.1
  have k2 : q < 1048576 := hq.2
  have k3 : ¬ q ≤ last := by omega
  have k4 : wrap64 (q + c3) = q + c3 := by unfold wrap64; omega
  have k5 : wrap64 (q + c3 + 1) = q + c3 + 1 := by unfold wrap64; omega
  have k6 : (iN : Int) < 8 := by omega
  have I0 := ag_size
  clear h ht hq e0 e1 e3 hr2
  obtain ⟨x, hx⟩ : ∃ x, vt.getD iN 0 = x := ⟨_, rfl⟩
  obtain ⟨cn, hcn⟩ : ∃ cn, cntV vt x = cn := ⟨_, rfl⟩
  rw [hx, hcn]
  have HX := Aside0.mk hx
  have HCN := Aside0.mk hcn
  clear hx hcn
  go_enter Try.func37, Try.ntmps37
  go_upto_region 8 with (first
    | (go_at_call 87; (with_reducible refine (ag_none A bm _ g11).mono ?_); rintro e w ⟨rfl, rfl⟩)
    | (go_at_call 88; (with_reducible refine (ag_isRound q _ k1 k2).mono ?_); rintro e w ⟨rfl, rfl⟩)
    | (go_at_call 89; (with_reducible refine (ag_of A base bm n _ _ last v D (q + c3 + 1) vt _ H.out HT.out HR.out).mono ?_); rintro e w1 ⟨rfl, hb⟩; have HB1 := Aside0.mk hb; clear hb; unfold vA)
    | ((with_reducible refine gate_store (t := 137) (p := 7) (v := .tmp 33) rfl ?_); refine x_arrStore rfl 137 (.tmp 7) (.tmp 33) rfl w1.heap.size (nums .i64 (NBk 0)).toArray (nums .i64 vt).toArray rfl rfl (heap_alloc_new _ _) (by rw [vA_size HL.out]; exact ag_size) (by rw [vA_size (NBk_len 0 (by decide)), vA_size HL.out]) (vA_one _) ?_; intro W3 hh hg; have X1 : Aside0 (VB W3 w1.heap.size vt) := ⟨hh⟩; have XB := Aside0.mk (below_step HB1.out (((Below.refl _ w1).alloc (Nat.le_refl _) _).grown hg (by simp) (fun k hk => by injection hk with hk; omega))); clear hh hg))
  obtain ⟨BV, hBV⟩ : ∃ B, w1.heap.size = B := ⟨_, rfl⟩
  rw [hBV] at X1 ⊢
  clear hBV
  have q1 := X1.out.at iN (by rw [HL.out]; exact hi8)
  rw [HX.out] at q1
  have q2 := fl_low g10 XB.out
  have G0 : Aside0 (∀ W, Below w.heap.size w W → W.cell? ⟨A, 0, none⟩ = some (.int .i64 c0)) := ⟨fun W hb => fl_low g0 hb⟩
  have G1 : Aside0 (∀ W, Below w.heap.size w W → W.cell? ⟨A, 1, none⟩ = some (.int .i64 c1)) := ⟨fun W hb => fl_low g1 hb⟩
  have G13 : Aside0 (∀ W, Below w.heap.size w W → W.cell? ⟨A, 13, none⟩ = some (.int .i64 last)) := ⟨fun W hb => fl_low g13 hb⟩
  have G14 : Aside0 (∀ W, Below w.heap.size w W → W.cell? ⟨A, 14, none⟩ = some (.int .i64 v)) := ⟨fun W hb => fl_low g14 hb⟩
  have hcl : cn ≤ 8 := by rw [← HCN.out, ← HL.out]; exact cntV_le _ _
  clear g0 g1 g3 g10 g11 g12 g13 g14
  by_cases hown : x = -1
  · subst hown
    go_wp2
    go_ret3
    first | exact .inl ⟨rfl, rfl, XB.out⟩ | exact ⟨rfl, XB.out⟩
  · have m1 : wrap64 (2 * (cn : Int)) = 2 * (cn : Int) := by unfold wrap64; omega
    have m2 : wrap64 (c0 + c1) = c0 + c1 := by unfold wrap64; omega
    have HOW := Aside0.mk hown
    by_cases hmany : c0 + c1 < 2 * (cn : Int)
    · have HMA := Aside0.mk hmany
      have HBW := Aside0.mk (Below.refl W3.heap.size W3)
      go_upto_region 11 with fail
      refine start_ (n := 17) (S := fun w' => w'.cell? ⟨A, 0, none⟩ = some (.int .i64 c0) ∧ w'.cell? ⟨A, 1, none⟩ = some (.int .i64 c1)) (ds := []) #[false, false, false, false, false, false, false, false, false, false, false, false, false, false, false, false, false] (by kernel_rfl) rfl rfl ⟨G0.out _ (below_step XB.out (by repeat (first | exact HBW.out | apply below_drew | apply below_alloc | apply pw_below_drewN))), G1.out _ (below_step XB.out (by repeat (first | exact HBW.out | apply below_drew | apply below_alloc | apply pw_below_drewN)))⟩ (fun hHeld => ?_); refine with_tabW cm1.tab11 cm1.bits11 (fun HT_ HW_ => ?_)
      refine take_ (i := 1) (N := (some 43)) (v := ?_) (a' := ?_) #[false, true, false, false, false, false, false, false, false, false, false, false, false, false, false, false, false] rfl rfl (take_ofW HT_.out HW_.out (by kernel_rfl)) (fun _ _ _ h => h) (Or.inl ⟨by rfl, ?_⟩) hHeld ?_ ?_
      rotate_left
      · rintro w' ⟨s0_, s1_⟩
        go_simp
        with_reducible rfl
      rotate_left
      · simp only [Act.put, List.setIfInBounds_toArray, List.set_cons_zero, List.set_cons_succ, i64_w, i32_w]
        rfl
      refine take_ (i := 4) (N := (some 46)) (v := ?_) (a' := ?_) #[false, true, false, false, true, false, false, false, false, false, false, false, false, false, false, false, false] rfl rfl (take_ofW HT_.out HW_.out (by kernel_rfl)) (fun _ _ _ h => h) (Or.inl ⟨by rfl, ?_⟩) hHeld ?_ ?_
      rotate_left
      · rintro w' ⟨s0_, s1_⟩
        go_simp
        with_reducible rfl
      rotate_left
      · simp only [Act.put, List.setIfInBounds_toArray, List.set_cons_zero, List.set_cons_succ, i64_w, i32_w]
        rfl
      refine take_ (i := 5) (N := (some 47)) (v := ?_) (a' := ?_) #[false, true, false, false, true, true, false, false, false, false, false, false, false, false, false, false, false] rfl rfl (take_ofW HT_.out HW_.out (by kernel_rfl)) (fun _ _ _ h => h) (Or.inl ⟨by rfl, ?_⟩) hHeld ?_ ?_
      rotate_left
      · rintro w' ⟨s0_, s1_⟩
        go_simp
        with_reducible rfl
      rotate_left
      · simp only [Act.put, List.setIfInBounds_toArray, List.set_cons_zero, List.set_cons_succ, i64_w, i32_w]
        rfl
      refine take_ (i := 6) (N := (some 48)) (v := ?_) (a' := ?_) #[false, true, false, false, true, true, true, false, false, false, false, false, false, false, false, false, false] rfl rfl (take_ofW HT_.out HW_.out (by kernel_rfl)) (fun _ _ _ h => h) (Or.inl ⟨by rfl, ?_⟩) hHeld ?_ ?_
      rotate_left
      · rintro w' ⟨s0_, s1_⟩
        go_simp
        with_reducible rfl
      rotate_left
      · simp only [Act.put, List.setIfInBounds_toArray, List.set_cons_zero, List.set_cons_succ, i64_w, i32_w]
        rfl
      refine take_ (i := 7) (N := (some 49)) (v := ?_) (a' := ?_) #[false, true, false, false, true, true, true, true, false, false, false, false, false, false, false, false, false] rfl rfl (take_ofW HT_.out HW_.out (by kernel_rfl)) (fun _ _ _ h => h) (Or.inl ⟨by rfl, ?_⟩) hHeld ?_ ?_
      rotate_left
      · rintro w' ⟨s0_, s1_⟩
        go_simp
        with_reducible rfl
      rotate_left
      · simp only [Act.put, List.setIfInBounds_toArray, List.set_cons_zero, List.set_cons_succ, i64_w, i32_w]
        rfl
      refine take_ (i := 8) (N := (some 50)) (v := ?_) (a' := ?_) #[false, true, false, false, true, true, true, true, true, false, false, false, false, false, false, false, false] rfl rfl (take_ofW HT_.out HW_.out (by kernel_rfl)) (fun _ _ _ h => h) (Or.inl ⟨by rfl, ?_⟩) hHeld ?_ ?_
      rotate_left
      · rintro w' ⟨s0_, s1_⟩
        go_simp
        with_reducible rfl
      rotate_left
      · simp only [Act.put, List.setIfInBounds_toArray, List.set_cons_zero, List.set_cons_succ, i64_w, i32_w]
        rfl
      refine take_ (i := 9) (N := (some 51)) (v := ?_) (a' := ?_) #[false, true, false, false, true, true, true, true, true, true, false, false, false, false, false, false, false] rfl rfl (take_ofW HT_.out HW_.out (by kernel_rfl)) (fun _ _ _ h => h) (Or.inl ⟨by rfl, ?_⟩) hHeld ?_ ?_
      rotate_left
      · rintro w' ⟨s0_, s1_⟩
        go_simp
        with_reducible rfl
      rotate_left
      · simp only [Act.put, List.setIfInBounds_toArray, List.set_cons_zero, List.set_cons_succ, i64_w, i32_w]
        rfl
      refine take_ (i := 10) (N := (some 52)) (v := ?_) (a' := ?_) #[false, true, false, false, true, true, true, true, true, true, true, false, false, false, false, false, false] rfl rfl (take_ofW HT_.out HW_.out (by kernel_rfl)) (fun _ _ _ h => h) (Or.inl ⟨by rfl, ?_⟩) hHeld ?_ ?_
      rotate_left
      · rintro w' ⟨s0_, s1_⟩
        go_simp
        with_reducible rfl
      rotate_left
      · simp only [Act.put, List.setIfInBounds_toArray, List.set_cons_zero, List.set_cons_succ, i64_w, i32_w]
        rfl
      refine take_ (i := 11) (N := (some 53)) (v := ?_) (a' := ?_) #[false, true, false, false, true, true, true, true, true, true, true, true, false, false, false, false, false] rfl rfl (take_ofW HT_.out HW_.out (by kernel_rfl)) (fun _ _ _ h => h) (Or.inl ⟨by rfl, ?_⟩) hHeld ?_ ?_
      rotate_left
      · rintro w' ⟨s0_, s1_⟩
        go_simp
        with_reducible rfl
      rotate_left
      · simp only [Act.put, List.setIfInBounds_toArray, List.set_cons_zero, List.set_cons_succ, i64_w, i32_w]
        rfl
      refine take_ (i := 12) (N := (some 54)) (v := ?_) (a' := ?_) #[false, true, false, false, true, true, true, true, true, true, true, true, true, false, false, false, false] rfl rfl (take_ofW HT_.out HW_.out (by kernel_rfl)) (fun _ _ _ h => h) (Or.inl ⟨by rfl, ?_⟩) hHeld ?_ ?_
      rotate_left
      · rintro w' ⟨s0_, s1_⟩
        go_simp
        with_reducible rfl
      rotate_left
      · simp only [Act.put, List.setIfInBounds_toArray, List.set_cons_zero, List.set_cons_succ, i64_w, i32_w]
        rfl
      refine take_ (i := 13) (N := (some 55)) (v := ?_) (a' := ?_) #[false, true, false, false, true, true, true, true, true, true, true, true, true, true, false, false, false] rfl rfl (take_ofW HT_.out HW_.out (by kernel_rfl)) (fun _ _ _ h => h) (Or.inl ⟨by rfl, ?_⟩) hHeld ?_ ?_
      rotate_left
      · rintro w' ⟨s0_, s1_⟩
        go_simp
        with_reducible rfl
      rotate_left
      · simp only [Act.put, List.setIfInBounds_toArray, List.set_cons_zero, List.set_cons_succ, i64_w, i32_w]
        rfl
      refine take_ (i := 14) (N := (some 56)) (v := ?_) (a' := ?_) #[false, true, false, false, true, true, true, true, true, true, true, true, true, true, true, false, false] rfl rfl (take_ofW HT_.out HW_.out (by kernel_rfl)) (fun _ _ _ h => h) (Or.inl ⟨by rfl, ?_⟩) hHeld ?_ ?_
      rotate_left
      · rintro w' ⟨s0_, s1_⟩
        go_simp
        with_reducible rfl
      rotate_left
      · simp only [Act.put, List.setIfInBounds_toArray, List.set_cons_zero, List.set_cons_succ, i64_w, i32_w]
        rfl
      refine one_ (i := 0) (N := (some 42)) #[true, true, false, false, true, true, true, true, true, true, true, true, true, true, true, false, false] rfl rfl (one_of HT_.out (by kernel_rfl)) (by decide) (fun K hK => ?_)
      refine step_load (by rfl) 42 rfl 137 (.tmp 7) rfl ⟨BV, 0, none⟩ (.agg (nums .i64 vt).toArray) rfl (run_loadVar_row _ BV 137 137 _ (0, 0) _ (X1.out.below (by repeat (first | exact HBW.out | apply below_drew | apply below_alloc | apply pw_below_drewN))) Try.underlying137 rfl (by rw [vA_size HL.out]; exact ag_size)) ?_
      refine hK.out _ _ ⟨G0.out _ (below_step XB.out (by repeat (first | exact HBW.out | apply below_drew | apply below_alloc | apply pw_below_drewN))), G1.out _ (below_step XB.out (by repeat (first | exact HBW.out | apply below_drew | apply below_alloc | apply pw_below_drewN)))⟩ (fun hHeld => ?_)
      clear hK K
      refine norm_ (a' := ?_) ?_ ?_
      rotate_left
      · show Act.put _ (some 42) _ = _
        simp only [Act.put, List.setIfInBounds_toArray, List.set_cons_zero, List.set_cons_succ, i64_w, i32_w]
        rfl
      refine one_ (i := 2) (N := (some 44)) #[true, true, true, false, true, true, true, true, true, true, true, true, true, true, true, false, false] rfl rfl (one_of HT_.out (by kernel_rfl)) (by decide) (fun K hK => ?_)
      refine goes_ Try.func90 (by kernel_rfl) rfl #[.agg (nums .i64 vt).toArray, .int .i64 x] (by rfl) rfl rfl (by first | rfl | (simp only [List.map_toArray, List.map_cons, List.map_nil]; try rfl)) ?_
      (with_reducible refine (ag_countA vt HL.out x _).mono ?_)
      rintro e_ w_ ⟨rfl, hb⟩
      rw [HCN.out]
      have HBn := Aside0.mk (below_step (by repeat (first | exact HBW.out | apply below_drew | apply below_alloc | apply pw_below_drewN)) hb)
      clear HBW hb
      have HBW := HBn
      clear HBn
      refine ⟨_, rfl, ?_⟩
      refine hK.out _ _ ⟨G0.out _ (below_step XB.out (by repeat (first | exact HBW.out | apply below_drew | apply below_alloc | apply pw_below_drewN))), G1.out _ (below_step XB.out (by repeat (first | exact HBW.out | apply below_drew | apply below_alloc | apply pw_below_drewN)))⟩ (fun hHeld => ?_)
      clear hK K
      refine norm_ (a' := ?_) ?_ ?_
      rotate_left
      · show Act.put _ (some 44) _ = _
        simp only [Act.put, List.setIfInBounds_toArray, List.set_cons_zero, List.set_cons_succ, i64_w, i32_w]
        rfl
      refine take_ (i := 3) (N := (some 45)) (v := ?_) (a' := ?_) #[true, true, true, true, true, true, true, true, true, true, true, true, true, true, true, false, false] rfl rfl (take_ofW HT_.out HW_.out (by kernel_rfl)) (fun _ _ _ h => h) (Or.inl ⟨by rfl, ?_⟩) hHeld ?_ ?_
      rotate_left
      · rintro w' ⟨s0_, s1_⟩
        go_simp
        with_reducible rfl
      rotate_left
      · simp only [Act.put, List.setIfInBounds_toArray, List.set_cons_zero, List.set_cons_succ, i64_w, i32_w]
        rfl
      refine take_ (i := 15) (N := (some 57)) (v := ?_) (a' := ?_) #[true, true, true, true, true, true, true, true, true, true, true, true, true, true, true, true, false] rfl rfl (take_ofW HT_.out HW_.out (by kernel_rfl)) (fun _ _ _ h => h) (Or.inl ⟨by rfl, ?_⟩) hHeld ?_ ?_
      rotate_left
      · rintro w' ⟨s0_, s1_⟩
        go_simp
        with_reducible rfl
      rotate_left
      · simp only [Act.put, List.setIfInBounds_toArray, List.set_cons_zero, List.set_cons_succ, i64_w, i32_w]
        rfl
      refine take_ (i := 16) (N := (some 9)) (v := ?_) (a' := ?_) #[true, true, true, true, true, true, true, true, true, true, true, true, true, true, true, true, true] rfl rfl (take_ofW HT_.out HW_.out (by kernel_rfl)) (fun _ _ _ h => h) (Or.inl ⟨by rfl, ?_⟩) hHeld ?_ ?_
      rotate_left
      · rintro w' ⟨s0_, s1_⟩
        go_simp
        with_reducible rfl
      rotate_left
      · simp only [Act.put, List.setIfInBounds_toArray, List.set_cons_zero, List.set_cons_succ, i64_w, i32_w]
        rfl
      refine done_ (done_of HT_.out (by kernel_rfl)) ?_
      have hend := below_step XB.out (by repeat (first | exact HBW.out | apply below_drew | apply below_alloc | apply pw_below_drewN))
      have HA := Aside0.mk (H.out.below hend)
      have HE := Aside0.mk hend
      have r13 := G13.out _ hend
      have r14 := G14.out _ hend
      have f13 := blk_frozen HA.out.2.2.2.1 13
      have f14 := blk_frozen HA.out.2.2.2.1 14
      clear hend
      go_wp2
      go_ret3
      first | exact .inr ⟨rfl, AG.set HA.out q x, ((KeepBut.of_below HE.out A none).set_ 13 _).set_ 14 _, ((b_cut HE.out HBS.out).setCell (p := ⟨A, 13, none⟩) HA.out.1 _).setCell (p := ⟨A, 14, none⟩) HA.out.1 _⟩ | exact .inr ⟨HMA.out, rfl, AG.set HA.out q x, ((KeepBut.of_below HE.out A none).set_ 13 _).set_ 14 _, ((b_cut HE.out HBS.out).setCell (p := ⟨A, 13, none⟩) HA.out.1 _).setCell (p := ⟨A, 14, none⟩) HA.out.1 _⟩ | exact ⟨rfl, AG.set HA.out q x, ((KeepBut.of_below HE.out A none).set_ 13 _).set_ 14 _, ((b_cut HE.out HBS.out).setCell (p := ⟨A, 13, none⟩) HA.out.1 _).setCell (p := ⟨A, 14, none⟩) HA.out.1 _⟩ | exact ⟨HMA.out, rfl, AG.set HA.out q x, ((KeepBut.of_below HE.out A none).set_ 13 _).set_ 14 _, ((b_cut HE.out HBS.out).setCell (p := ⟨A, 13, none⟩) HA.out.1 _).setCell (p := ⟨A, 14, none⟩) HA.out.1 _⟩ | exact .inr (.inr ⟨HOW.out, HMA.out, rfl, AG.set HA.out q x, ((KeepBut.of_below HE.out A none).set_ 13 _).set_ 14 _, ((b_cut HE.out HBS.out).setCell (p := ⟨A, 13, none⟩) HA.out.1 _).setCell (p := ⟨A, 14, none⟩) HA.out.1 _⟩)
    · have HMA := Aside0.mk hmany
      have HBW := Aside0.mk (Below.refl W3.heap.size W3)
      go_upto_region 11 with fail
      refine start_ (n := 17) (S := fun w' => w'.cell? ⟨A, 0, none⟩ = some (.int .i64 c0) ∧ w'.cell? ⟨A, 1, none⟩ = some (.int .i64 c1)) (ds := []) #[false, false, false, false, false, false, false, false, false, false, false, false, false, false, false, false, false] (by kernel_rfl) rfl rfl ⟨G0.out _ (below_step XB.out (by repeat (first | exact HBW.out | apply below_drew | apply below_alloc | apply pw_below_drewN))), G1.out _ (below_step XB.out (by repeat (first | exact HBW.out | apply below_drew | apply below_alloc | apply pw_below_drewN)))⟩ (fun hHeld => ?_); refine with_tabW cm2.tab11 cm2.bits11 (fun HT_ HW_ => ?_)
      refine take_ (i := 1) (N := (some 43)) (v := ?_) (a' := ?_) #[false, true, false, false, false, false, false, false, false, false, false, false, false, false, false, false, false] rfl rfl (take_ofW HT_.out HW_.out (by kernel_rfl)) (fun _ _ _ h => h) (Or.inl ⟨by rfl, ?_⟩) hHeld ?_ ?_
      rotate_left
      · rintro w' ⟨s0_, s1_⟩
        go_simp
        with_reducible rfl
      rotate_left
      · simp only [Act.put, List.setIfInBounds_toArray, List.set_cons_zero, List.set_cons_succ, i64_w, i32_w]
        rfl
      refine take_ (i := 4) (N := (some 46)) (v := ?_) (a' := ?_) #[false, true, false, false, true, false, false, false, false, false, false, false, false, false, false, false, false] rfl rfl (take_ofW HT_.out HW_.out (by kernel_rfl)) (fun _ _ _ h => h) (Or.inl ⟨by rfl, ?_⟩) hHeld ?_ ?_
      rotate_left
      · rintro w' ⟨s0_, s1_⟩
        go_simp
        with_reducible rfl
      rotate_left
      · simp only [Act.put, List.setIfInBounds_toArray, List.set_cons_zero, List.set_cons_succ, i64_w, i32_w]
        rfl
      refine take_ (i := 5) (N := (some 47)) (v := ?_) (a' := ?_) #[false, true, false, false, true, true, false, false, false, false, false, false, false, false, false, false, false] rfl rfl (take_ofW HT_.out HW_.out (by kernel_rfl)) (fun _ _ _ h => h) (Or.inl ⟨by rfl, ?_⟩) hHeld ?_ ?_
      rotate_left
      · rintro w' ⟨s0_, s1_⟩
        go_simp
        with_reducible rfl
      rotate_left
      · simp only [Act.put, List.setIfInBounds_toArray, List.set_cons_zero, List.set_cons_succ, i64_w, i32_w]
        rfl
      refine take_ (i := 6) (N := (some 48)) (v := ?_) (a' := ?_) #[false, true, false, false, true, true, true, false, false, false, false, false, false, false, false, false, false] rfl rfl (take_ofW HT_.out HW_.out (by kernel_rfl)) (fun _ _ _ h => h) (Or.inl ⟨by rfl, ?_⟩) hHeld ?_ ?_
      rotate_left
      · rintro w' ⟨s0_, s1_⟩
        go_simp
        with_reducible rfl
      rotate_left
      · simp only [Act.put, List.setIfInBounds_toArray, List.set_cons_zero, List.set_cons_succ, i64_w, i32_w]
        rfl
      refine take_ (i := 7) (N := (some 49)) (v := ?_) (a' := ?_) #[false, true, false, false, true, true, true, true, false, false, false, false, false, false, false, false, false] rfl rfl (take_ofW HT_.out HW_.out (by kernel_rfl)) (fun _ _ _ h => h) (Or.inl ⟨by rfl, ?_⟩) hHeld ?_ ?_
      rotate_left
      · rintro w' ⟨s0_, s1_⟩
        go_simp
        with_reducible rfl
      rotate_left
      · simp only [Act.put, List.setIfInBounds_toArray, List.set_cons_zero, List.set_cons_succ, i64_w, i32_w]
        rfl
      refine take_ (i := 8) (N := (some 50)) (v := ?_) (a' := ?_) #[false, true, false, false, true, true, true, true, true, false, false, false, false, false, false, false, false] rfl rfl (take_ofW HT_.out HW_.out (by kernel_rfl)) (fun _ _ _ h => h) (Or.inl ⟨by rfl, ?_⟩) hHeld ?_ ?_
      rotate_left
      · rintro w' ⟨s0_, s1_⟩
        go_simp
        with_reducible rfl
      rotate_left
      · simp only [Act.put, List.setIfInBounds_toArray, List.set_cons_zero, List.set_cons_succ, i64_w, i32_w]
        rfl
      refine take_ (i := 9) (N := (some 51)) (v := ?_) (a' := ?_) #[false, true, false, false, true, true, true, true, true, true, false, false, false, false, false, false, false] rfl rfl (take_ofW HT_.out HW_.out (by kernel_rfl)) (fun _ _ _ h => h) (Or.inl ⟨by rfl, ?_⟩) hHeld ?_ ?_
      rotate_left
      · rintro w' ⟨s0_, s1_⟩
        go_simp
        with_reducible rfl
      rotate_left
      · simp only [Act.put, List.setIfInBounds_toArray, List.set_cons_zero, List.set_cons_succ, i64_w, i32_w]
        rfl
      refine take_ (i := 10) (N := (some 52)) (v := ?_) (a' := ?_) #[false, true, false, false, true, true, true, true, true, true, true, false, false, false, false, false, false] rfl rfl (take_ofW HT_.out HW_.out (by kernel_rfl)) (fun _ _ _ h => h) (Or.inl ⟨by rfl, ?_⟩) hHeld ?_ ?_
      rotate_left
      · rintro w' ⟨s0_, s1_⟩
        go_simp
        with_reducible rfl
      rotate_left
      · simp only [Act.put, List.setIfInBounds_toArray, List.set_cons_zero, List.set_cons_succ, i64_w, i32_w]
        rfl
      refine take_ (i := 11) (N := (some 53)) (v := ?_) (a' := ?_) #[false, true, false, false, true, true, true, true, true, true, true, true, false, false, false, false, false] rfl rfl (take_ofW HT_.out HW_.out (by kernel_rfl)) (fun _ _ _ h => h) (Or.inl ⟨by rfl, ?_⟩) hHeld ?_ ?_
      rotate_left
      · rintro w' ⟨s0_, s1_⟩
        go_simp
        with_reducible rfl
      rotate_left
      · simp only [Act.put, List.setIfInBounds_toArray, List.set_cons_zero, List.set_cons_succ, i64_w, i32_w]
        rfl
      refine take_ (i := 12) (N := (some 54)) (v := ?_) (a' := ?_) #[false, true, false, false, true, true, true, true, true, true, true, true, true, false, false, false, false] rfl rfl (take_ofW HT_.out HW_.out (by kernel_rfl)) (fun _ _ _ h => h) (Or.inl ⟨by rfl, ?_⟩) hHeld ?_ ?_
      rotate_left
      · rintro w' ⟨s0_, s1_⟩
        go_simp
        with_reducible rfl
      rotate_left
      · simp only [Act.put, List.setIfInBounds_toArray, List.set_cons_zero, List.set_cons_succ, i64_w, i32_w]
        rfl
      refine take_ (i := 13) (N := (some 55)) (v := ?_) (a' := ?_) #[false, true, false, false, true, true, true, true, true, true, true, true, true, true, false, false, false] rfl rfl (take_ofW HT_.out HW_.out (by kernel_rfl)) (fun _ _ _ h => h) (Or.inl ⟨by rfl, ?_⟩) hHeld ?_ ?_
      rotate_left
      · rintro w' ⟨s0_, s1_⟩
        go_simp
        with_reducible rfl
      rotate_left
      · simp only [Act.put, List.setIfInBounds_toArray, List.set_cons_zero, List.set_cons_succ, i64_w, i32_w]
        rfl
      refine take_ (i := 14) (N := (some 56)) (v := ?_) (a' := ?_) #[false, true, false, false, true, true, true, true, true, true, true, true, true, true, true, false, false] rfl rfl (take_ofW HT_.out HW_.out (by kernel_rfl)) (fun _ _ _ h => h) (Or.inl ⟨by rfl, ?_⟩) hHeld ?_ ?_
      rotate_left
      · rintro w' ⟨s0_, s1_⟩
        go_simp
        with_reducible rfl
      rotate_left
      · simp only [Act.put, List.setIfInBounds_toArray, List.set_cons_zero, List.set_cons_succ, i64_w, i32_w]
        rfl
      refine one_ (i := 0) (N := (some 42)) #[true, true, false, false, true, true, true, true, true, true, true, true, true, true, true, false, false] rfl rfl (one_of HT_.out (by kernel_rfl)) (by decide) (fun K hK => ?_)
      refine step_load (by rfl) 42 rfl 137 (.tmp 7) rfl ⟨BV, 0, none⟩ (.agg (nums .i64 vt).toArray) rfl (run_loadVar_row _ BV 137 137 _ (0, 0) _ (X1.out.below (by repeat (first | exact HBW.out | apply below_drew | apply below_alloc | apply pw_below_drewN))) Try.underlying137 rfl (by rw [vA_size HL.out]; exact ag_size)) ?_
      refine hK.out _ _ ⟨G0.out _ (below_step XB.out (by repeat (first | exact HBW.out | apply below_drew | apply below_alloc | apply pw_below_drewN))), G1.out _ (below_step XB.out (by repeat (first | exact HBW.out | apply below_drew | apply below_alloc | apply pw_below_drewN)))⟩ (fun hHeld => ?_)
      clear hK K
      refine norm_ (a' := ?_) ?_ ?_
      rotate_left
      · show Act.put _ (some 42) _ = _
        simp only [Act.put, List.setIfInBounds_toArray, List.set_cons_zero, List.set_cons_succ, i64_w, i32_w]
        rfl
      refine one_ (i := 2) (N := (some 44)) #[true, true, true, false, true, true, true, true, true, true, true, true, true, true, true, false, false] rfl rfl (one_of HT_.out (by kernel_rfl)) (by decide) (fun K hK => ?_)
      refine goes_ Try.func90 (by kernel_rfl) rfl #[.agg (nums .i64 vt).toArray, .int .i64 x] (by rfl) rfl rfl (by first | rfl | (simp only [List.map_toArray, List.map_cons, List.map_nil]; try rfl)) ?_
      (with_reducible refine (ag_countA vt HL.out x _).mono ?_)
      rintro e_ w_ ⟨rfl, hb⟩
      rw [HCN.out]
      have HBn := Aside0.mk (below_step (by repeat (first | exact HBW.out | apply below_drew | apply below_alloc | apply pw_below_drewN)) hb)
      clear HBW hb
      have HBW := HBn
      clear HBn
      refine ⟨_, rfl, ?_⟩
      refine hK.out _ _ ⟨G0.out _ (below_step XB.out (by repeat (first | exact HBW.out | apply below_drew | apply below_alloc | apply pw_below_drewN))), G1.out _ (below_step XB.out (by repeat (first | exact HBW.out | apply below_drew | apply below_alloc | apply pw_below_drewN)))⟩ (fun hHeld => ?_)
      clear hK K
      refine norm_ (a' := ?_) ?_ ?_
      rotate_left
      · show Act.put _ (some 44) _ = _
        simp only [Act.put, List.setIfInBounds_toArray, List.set_cons_zero, List.set_cons_succ, i64_w, i32_w]
        rfl
      refine take_ (i := 3) (N := (some 45)) (v := ?_) (a' := ?_) #[true, true, true, true, true, true, true, true, true, true, true, true, true, true, true, false, false] rfl rfl (take_ofW HT_.out HW_.out (by kernel_rfl)) (fun _ _ _ h => h) (Or.inl ⟨by rfl, ?_⟩) hHeld ?_ ?_
      rotate_left
      · rintro w' ⟨s0_, s1_⟩
        go_simp
        with_reducible rfl
      rotate_left
      · simp only [Act.put, List.setIfInBounds_toArray, List.set_cons_zero, List.set_cons_succ, i64_w, i32_w]
        rfl
      refine take_ (i := 15) (N := (some 57)) (v := ?_) (a' := ?_) #[true, true, true, true, true, true, true, true, true, true, true, true, true, true, true, true, false] rfl rfl (take_ofW HT_.out HW_.out (by kernel_rfl)) (fun _ _ _ h => h) (Or.inl ⟨by rfl, ?_⟩) hHeld ?_ ?_
      rotate_left
      · rintro w' ⟨s0_, s1_⟩
        go_simp
        with_reducible rfl
      rotate_left
      · simp only [Act.put, List.setIfInBounds_toArray, List.set_cons_zero, List.set_cons_succ, i64_w, i32_w]
        rfl
      refine take_ (i := 16) (N := (some 9)) (v := ?_) (a' := ?_) #[true, true, true, true, true, true, true, true, true, true, true, true, true, true, true, true, true] rfl rfl (take_ofW HT_.out HW_.out (by kernel_rfl)) (fun _ _ _ h => h) (Or.inl ⟨by rfl, ?_⟩) hHeld ?_ ?_
      rotate_left
      · rintro w' ⟨s0_, s1_⟩
        go_simp
        with_reducible rfl
      rotate_left
      · simp only [Act.put, List.setIfInBounds_toArray, List.set_cons_zero, List.set_cons_succ, i64_w, i32_w]
        rfl
      refine done_ (done_of HT_.out (by kernel_rfl)) ?_
      have hend := below_step XB.out (by repeat (first | exact HBW.out | apply below_drew | apply below_alloc | apply pw_below_drewN))
      have HE := Aside0.mk hend
      clear hend
      go_wp2
      go_ret3
      first | exact .inl ⟨rfl, HE.out⟩ | exact .inl ⟨HMA.out, rfl, HE.out⟩ | exact .inr (.inl ⟨HOW.out, HMA.out, rfl, HE.out⟩) | exact .inl ⟨HOW.out, HMA.out, rfl, HE.out⟩ | exact ⟨rfl, HE.out⟩
end Go.Proofs.Ytbkchjiiaehhpaa.Obj
