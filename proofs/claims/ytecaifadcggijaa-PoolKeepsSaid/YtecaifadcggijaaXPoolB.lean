/- Contracts of Go functions that the claims of this seat share. -/
import Derived.Test.YtecaifadcggijaaProg
import Derived.Below
import Derived.Deep.Draws
import Derived.Deep.AppendLies
import Derived.Maps.AppendAt
import Derived.OwnWalk
import Derived.Laws.BytesArg
import Derived.Laws.MakeOwn
import Derived.Laws.OwnMore
import Derived.Deep.OwnRows
import Derived.Tactics
import Derived.Lib.ConvBytes
import Derived.Laws.Slices
import Derived.WalkKit
import Derived.KernelRfl
import Derived.RowKit3
import Derived.Deep.LoopGhost
import Derived.Deep.QuietTactic
import Derived.BigQuiet
import Derived.WideLaws
import Derived.Deep.DeepCutAuto
import Derived.Deep.CutBlock
import Derived.Deep.RegionHeld3
import Derived.Laws.Rows
import Derived.Lib.AppendStr
import Derived.ArgAppend
import Derived.Laws.IdiomCopy
import Derived.OrdersHeld
import Derived.Laws.BitsLemmas
import Derived.RowKit
import Derived.Test.YtecaifadcggijaaWWords
import Derived.Test.YtecaifadcggijaaWLast
import Derived.Test.YtecaifadcggijaaWTab
import Derived.Test.YtecaifadcggijaaWFour
import Derived.Test.YtecaifadcggijaaWQPut
import Derived.Test.YtecaifadcggijaaWApart
import Derived.Test.YtecaifadcggijaaWArr
import Derived.Test.YtecaifadcggijaaWZeros
import Derived.Test.YtecaifadcggijaaWFoot
import Derived.Test.YtecaifadcggijaaWKept
import Derived.Test.YtecaifadcggijaaWShare
import Derived.Test.YtecaifadcggijaaWN
import Derived.Test.YtecaifadcggijaaWFootNe
import Derived.Test.YtecaifadcggijaaWAt
import Derived.Test.YtecaifadcggijaaWEqStruct
import Derived.Test.YtecaifadcggijaaWRepsOne
import Derived.Test.YtecaifadcggijaaWInv
import Derived.Test.YtecaifadcggijaaWInvWords
import Derived.Test.YtecaifadcggijaaWGuard
import Derived.Test.YtecaifadcggijaaWNEv
import Derived.Test.YtecaifadcggijaaWMore
import Derived.Test.YtecaifadcggijaaX0Mem
import Derived.Test.YtecaifadcggijaaX1Pure
import Derived.Test.YtecaifadcggijaaXPoolA
namespace Go.Proofs.Ytecaifadcggijaa.Obj
open Go.RowKit Go.Proofs.YtecaifadcggijaaW.PrintWords Go.Proofs.YtecaifadcggijaaW.PrintLast Go.Proofs.YtecaifadcggijaaW.PrintMore
set_option linter.unusedVariables false
set_option linter.unusedSimpArgs false
def pg.T6 : Bool × List (List Nat × List Nat) := (true, [([], []), ([0], [0]), ([1], [1]), ([2], [2]), ([], []), ([3, 4], [3, 4]), ([5], [5]), ([6], [6]), ([7], [7]), ([], []), ([9], [9]), ([10], [10]), ([11], [11]), ([], []), ([12, 13], [12, 13]), ([14], [14]), ([15], [15]), ([8, 0, 1, 2, 3, 4, 5, 6, 7, 8], [8]), ([16, 17, 0, 1, 2, 3, 4, 5, 6, 7, 8, 9, 10, 11, 12, 13, 14, 15, 16, 17], [16]), ([18, 0, 1, 2, 3, 4, 5, 6, 7, 8, 9, 10, 11, 12, 13, 14, 15, 16, 17, 18], [])])
def pg.B6 : List Nat := [0, 1, 3, 7, 0, 31, 63, 127, 255, 0, 512, 1536, 3584, 0, 15872, 32256, 65024, 511, 262143, 524287]
theorem pg.tab6 : rtab .any (opsOf Try.f14 6) = pg.T6 := by kernel_rfl
theorem pg.bits6 : waitsOk pg.T6.2 pg.B6 = true := by kernel_rfl
open Go.Maps Go.WideMaps
theorem pl_get_info : (Try.prog.info? 5).map (fun i => (i.zero, i.size, i.bytes)) = some (some (.int .u8 0), 1, 1) := by kernel_rfl
theorem pl_cells {W : World} {base P bm : Nat} {v : Value} {xs : List (Int × ByteArray)} (h : PL W base P v bm xs) (k : Nat) (hk : k < xs.length) :
    ∃ ad c, v = .slice (some ad) xs.length c ∧ W.cell? (ad.add (k * 2)) = some (.int .i64 (xs[k]).1) ∧ W.cell? ⟨(ad.add (k * 2)).block, (ad.add (k * 2)).off + 1, none⟩ = some (.string (xs[k]).2) := by
  obtain ⟨A, c, rfl, _, hl, _, hr⟩ := Kd.R_reads h.2.2.2.1
  obtain ⟨ad, rfl, hc⟩ := hr (by omega)
  obtain ⟨cs, hlen, ⟨c0, c1, rfl, h0, h1⟩, hcell⟩ := hc k xs[k] (List.getElem?_eq_getElem hk)
  obtain rfl : c0 = [.int .i64 (xs[k]).1] := h0
  obtain rfl : c1 = [.string (xs[k]).2] := h1
  have q0 := hcell 0 _ rfl
  have q1 := hcell 1 _ rfl
  have e : k * ITM.sz = k * 2 := rfl
  rw [e] at q0 q1
  rw [add_field ad (k * 2) 1 (by decide)] at q1
  exact ⟨ad, c, rfl, q0, q1⟩
set_option maxHeartbeats 4000000 in
set_option maxRecDepth 100000 in
theorem pl_get (P base bm : Nat) (v : Value) (xs : List (Int × ByteArray)) (w : World) (h : PL w base P v bm xs) (k : Nat) (hk : k < xs.length) (hn : xs.length ≤ 4096) (hsz : (xs[k]).2.size ≤ 140737488351232) :
    Calls Try.prog 14 #[.pointer (some ⟨P, 0, none⟩), .int .i64 (k : Int)] w fun e w' => ∃ A c, e = .returned (.tuple #[.slice A (xs[k]).2.size c, .int .i64 (xs[k]).1, .int .i64 0]) ∧ Kd.C (Kd.int .u8) w' A (xs[k]).2.size (bytesOf (xs[k]).2) ∧ Below w.heap.size w w' := by
  have hu := Try.underlying49
  have hi := Try.underlying74
  have kb := fun W s => print_bytes (P := Try.prog) 9 25 5 Try.underlying9 Try.underlying25 Try.underlying5 s W
  obtain ⟨ad, c, rfl, q0, q1⟩ := pl_cells h k hk
  obtain ⟨f, hf⟩ : ∃ f, (xs[k]).1 = f := ⟨_, rfl⟩
  obtain ⟨s, hs⟩ : ∃ s, (xs[k]).2 = s := ⟨_, rfl⟩
  rw [hf] at q0 ⊢
  rw [hs] at q1 hsz ⊢
  have HSZ := Aside0.mk hsz
  obtain ⟨n, hnn⟩ : ∃ n, xs.length = n := ⟨_, rfl⟩
  have g0 := (blk_cell h.2.2.1 0).trans rfl
  have g1 := (blk_cell h.2.2.1 1).trans rfl
  rw [hnn] at g0 g1 hk hn
  have i1 : ¬ (k : Int) < 0 := by omega
  have i2 : ¬ (n : Int) ≤ (k : Int) := by omega
  have i3 : (k : Int) < (n : Int) := by omega
  clear h hf hs hnn
  go_enter Try.func14, Try.ntmps14
  go_upto_region 6 with (go_at_call 37; (with_reducible refine (pl_none P bm _ g1).mono ?_); rintro e w ⟨rfl, rfl⟩)
  have C0 : Aside0 (∀ W, Below w.heap.size w W → W.cell? ⟨P, 0, none⟩ = some (.slice (some ad) n c)) := ⟨fun W hb => fl_low (g0.trans rfl) hb⟩
  have C1 : Aside0 (∀ W, Below w.heap.size w W → W.cell? (ad.add (k * 2)) = some (.int .i64 f)) := ⟨fun W hb => fl_low q0 hb⟩
  have C2 : Aside0 (∀ W, Below w.heap.size w W → W.cell? ⟨(ad.add (k * 2)).block, (ad.add (k * 2)).off + 1, none⟩ = some (.string s)) := ⟨fun W hb => fl_low q1 hb⟩
  have HBW := Aside0.mk (Below.refl w.heap.size w)
  clear hsz
  refine start_ (n := 20) (S := fun w' => w'.cell? ⟨P, 0, none⟩ = some (.slice (some ad) n c) ∧ w'.cell? (ad.add (k * 2)) = some (.int .i64 f) ∧ w'.cell? ⟨(ad.add (k * 2)).block, (ad.add (k * 2)).off + 1, none⟩ = some (.string s)) (ds := []) #[false, false, false, false, false, false, false, false, false, false, false, false, false, false, false, false, false, false, false, false] (by kernel_rfl) rfl rfl ⟨C0.out _ (by repeat (first | exact HBW.out | apply below_drew | apply below_alloc | apply pw_below_drewN | exact Nat.le_refl _ | (refine bytes_below ?_ ?_ _ _))), C1.out _ (by repeat (first | exact HBW.out | apply below_drew | apply below_alloc | apply pw_below_drewN | exact Nat.le_refl _ | (refine bytes_below ?_ ?_ _ _))), C2.out _ (by repeat (first | exact HBW.out | apply below_drew | apply below_alloc | apply pw_below_drewN | exact Nat.le_refl _ | (refine bytes_below ?_ ?_ _ _)))⟩ (fun hHeld => ?_); refine with_tabW pg.tab6 pg.bits6 (fun HT_ HW_ => ?_)
  refine take_ (i := 0) (N := (some 20)) (v := ?_) (a' := ?_) #[true, false, false, false, false, false, false, false, false, false, false, false, false, false, false, false, false, false, false, false] rfl rfl (take_ofW HT_.out HW_.out (by kernel_rfl)) (fun _ _ _ h => h) (Or.inl ⟨by rfl, ?_⟩) hHeld ?_ ?_
  rotate_left
  · rintro w' ⟨s0_, s1_, s2_⟩
    go_simp
    with_reducible rfl
  rotate_left
  · simp only [Act.put, List.setIfInBounds_toArray, List.set_cons_zero, List.set_cons_succ, i64_w, i32_w]
    rfl
  refine take_ (i := 1) (N := (some 21)) (v := ?_) (a' := ?_) #[true, true, false, false, false, false, false, false, false, false, false, false, false, false, false, false, false, false, false, false] rfl rfl (take_ofW HT_.out HW_.out (by kernel_rfl)) (fun _ _ _ h => h) (Or.inl ⟨by rfl, ?_⟩) hHeld ?_ ?_
  rotate_left
  · rintro w' ⟨s0_, s1_, s2_⟩
    go_simp
    with_reducible rfl
  rotate_left
  · simp only [Act.put, List.setIfInBounds_toArray, List.set_cons_zero, List.set_cons_succ, i64_w, i32_w]
    rfl
  refine take_ (i := 2) (N := (some 22)) (v := ?_) (a' := ?_) #[true, true, true, false, false, false, false, false, false, false, false, false, false, false, false, false, false, false, false, false] rfl rfl (take_ofW HT_.out HW_.out (by kernel_rfl)) (fun _ _ _ h => h) (Or.inl ⟨by rfl, ?_⟩) hHeld ?_ ?_
  rotate_left
  · rintro w' ⟨s0_, s1_, s2_⟩
    go_simp
    with_reducible rfl
  rotate_left
  · simp only [Act.put, List.setIfInBounds_toArray, List.set_cons_zero, List.set_cons_succ, i64_w, i32_w]
    rfl
  refine take_ (i := 3) (N := (some 23)) (v := ?_) (a' := ?_) #[true, true, true, true, false, false, false, false, false, false, false, false, false, false, false, false, false, false, false, false] rfl rfl (take_ofW HT_.out HW_.out (by kernel_rfl)) (fun _ _ _ h => h) (Or.inl ⟨by rfl, ?_⟩) hHeld ?_ ?_
  rotate_left
  · rintro w' ⟨s0_, s1_, s2_⟩
    go_simp
    with_reducible rfl
  rotate_left
  · simp only [Act.put, List.setIfInBounds_toArray, List.set_cons_zero, List.set_cons_succ, i64_w, i32_w]
    rfl
  refine take_ (i := 4) (N := (some 24)) (v := ?_) (a' := ?_) #[true, true, true, true, true, false, false, false, false, false, false, false, false, false, false, false, false, false, false, false] rfl rfl (take_ofW HT_.out HW_.out (by kernel_rfl)) (fun _ _ _ h => h) (Or.inl ⟨by rfl, ?_⟩) hHeld ?_ ?_
  rotate_left
  · rintro w' ⟨s0_, s1_, s2_⟩
    go_simp
    with_reducible rfl
  rotate_left
  · simp only [Act.put, List.setIfInBounds_toArray, List.set_cons_zero, List.set_cons_succ, i64_w, i32_w]
    rfl
  refine take_ (i := 5) (N := (some 25)) (v := ?_) (a' := ?_) #[true, true, true, true, true, true, false, false, false, false, false, false, false, false, false, false, false, false, false, false] rfl rfl (take_ofW HT_.out HW_.out (by kernel_rfl)) (fun _ _ _ h => h) (Or.inl ⟨by rfl, ?_⟩) hHeld ?_ ?_
  rotate_left
  · rintro w' ⟨s0_, s1_, s2_⟩
    go_simp
    with_reducible rfl
  rotate_left
  · simp only [Act.put, List.setIfInBounds_toArray, List.set_cons_zero, List.set_cons_succ, i64_w, i32_w]
    rfl
  refine take_ (i := 6) (N := (some 26)) (v := ?_) (a' := ?_) #[true, true, true, true, true, true, true, false, false, false, false, false, false, false, false, false, false, false, false, false] rfl rfl (take_ofW HT_.out HW_.out (by kernel_rfl)) (fun _ _ _ h => h) (Or.inl ⟨by rfl, ?_⟩) hHeld ?_ ?_
  rotate_left
  · rintro w' ⟨s0_, s1_, s2_⟩
    go_simp
    with_reducible rfl
  rotate_left
  · simp only [Act.put, List.setIfInBounds_toArray, List.set_cons_zero, List.set_cons_succ, i64_w, i32_w]
    rfl
  refine take_ (i := 7) (N := (some 27)) (v := ?_) (a' := ?_) #[true, true, true, true, true, true, true, true, false, false, false, false, false, false, false, false, false, false, false, false] rfl rfl (take_ofW HT_.out HW_.out (by kernel_rfl)) (fun _ _ _ h => h) (Or.inl ⟨by rfl, ?_⟩) hHeld ?_ ?_
  rotate_left
  · rintro w' ⟨s0_, s1_, s2_⟩
    go_simp
    with_reducible rfl
  rotate_left
  · simp only [Act.put, List.setIfInBounds_toArray, List.set_cons_zero, List.set_cons_succ, i64_w, i32_w]
    rfl
  refine take_ (i := 9) (N := (some 29)) (v := ?_) (a' := ?_) #[true, true, true, true, true, true, true, true, false, true, false, false, false, false, false, false, false, false, false, false] rfl rfl (take_ofW HT_.out HW_.out (by kernel_rfl)) (fun _ _ _ h => h) (Or.inl ⟨by rfl, ?_⟩) hHeld ?_ ?_
  rotate_left
  · rintro w' ⟨s0_, s1_, s2_⟩
    go_simp
    with_reducible rfl
  rotate_left
  · simp only [Act.put, List.setIfInBounds_toArray, List.set_cons_zero, List.set_cons_succ, i64_w, i32_w]
    rfl
  refine take_ (i := 10) (N := (some 30)) (v := ?_) (a' := ?_) #[true, true, true, true, true, true, true, true, false, true, true, false, false, false, false, false, false, false, false, false] rfl rfl (take_ofW HT_.out HW_.out (by kernel_rfl)) (fun _ _ _ h => h) (Or.inl ⟨by rfl, ?_⟩) hHeld ?_ ?_
  rotate_left
  · rintro w' ⟨s0_, s1_, s2_⟩
    go_simp
    with_reducible rfl
  rotate_left
  · simp only [Act.put, List.setIfInBounds_toArray, List.set_cons_zero, List.set_cons_succ, i64_w, i32_w]
    rfl
  refine take_ (i := 11) (N := (some 31)) (v := ?_) (a' := ?_) #[true, true, true, true, true, true, true, true, false, true, true, true, false, false, false, false, false, false, false, false] rfl rfl (take_ofW HT_.out HW_.out (by kernel_rfl)) (fun _ _ _ h => h) (Or.inl ⟨by rfl, ?_⟩) hHeld ?_ ?_
  rotate_left
  · rintro w' ⟨s0_, s1_, s2_⟩
    go_simp
    with_reducible rfl
  rotate_left
  · simp only [Act.put, List.setIfInBounds_toArray, List.set_cons_zero, List.set_cons_succ, i64_w, i32_w]
    rfl
  refine take_ (i := 12) (N := (some 32)) (v := ?_) (a' := ?_) #[true, true, true, true, true, true, true, true, false, true, true, true, true, false, false, false, false, false, false, false] rfl rfl (take_ofW HT_.out HW_.out (by kernel_rfl)) (fun _ _ _ h => h) (Or.inl ⟨by rfl, ?_⟩) hHeld ?_ ?_
  rotate_left
  · rintro w' ⟨s0_, s1_, s2_⟩
    go_simp
    with_reducible rfl
  rotate_left
  · simp only [Act.put, List.setIfInBounds_toArray, List.set_cons_zero, List.set_cons_succ, i64_w, i32_w]
    rfl
  refine take_ (i := 13) (N := (some 33)) (v := ?_) (a' := ?_) #[true, true, true, true, true, true, true, true, false, true, true, true, true, true, false, false, false, false, false, false] rfl rfl (take_ofW HT_.out HW_.out (by kernel_rfl)) (fun _ _ _ h => h) (Or.inl ⟨by rfl, ?_⟩) hHeld ?_ ?_
  rotate_left
  · rintro w' ⟨s0_, s1_, s2_⟩
    go_simp
    with_reducible rfl
  rotate_left
  · simp only [Act.put, List.setIfInBounds_toArray, List.set_cons_zero, List.set_cons_succ, i64_w, i32_w]
    rfl
  refine take_ (i := 14) (N := (some 34)) (v := ?_) (a' := ?_) #[true, true, true, true, true, true, true, true, false, true, true, true, true, true, true, false, false, false, false, false] rfl rfl (take_ofW HT_.out HW_.out (by kernel_rfl)) (fun _ _ _ h => h) (Or.inl ⟨by rfl, ?_⟩) hHeld ?_ ?_
  rotate_left
  · rintro w' ⟨s0_, s1_, s2_⟩
    go_simp
    with_reducible rfl
  rotate_left
  · simp only [Act.put, List.setIfInBounds_toArray, List.set_cons_zero, List.set_cons_succ, i64_w, i32_w]
    rfl
  refine take_ (i := 15) (N := (some 35)) (v := ?_) (a' := ?_) #[true, true, true, true, true, true, true, true, false, true, true, true, true, true, true, true, false, false, false, false] rfl rfl (take_ofW HT_.out HW_.out (by kernel_rfl)) (fun _ _ _ h => h) (Or.inl ⟨by rfl, ?_⟩) hHeld ?_ ?_
  rotate_left
  · rintro w' ⟨s0_, s1_, s2_⟩
    go_simp
    with_reducible rfl
  rotate_left
  · simp only [Act.put, List.setIfInBounds_toArray, List.set_cons_zero, List.set_cons_succ, i64_w, i32_w]
    rfl
  refine take_ (i := 16) (N := (some 36)) (v := ?_) (a' := ?_) #[true, true, true, true, true, true, true, true, false, true, true, true, true, true, true, true, true, false, false, false] rfl rfl (take_ofW HT_.out HW_.out (by kernel_rfl)) (fun _ _ _ h => h) (Or.inl ⟨by rfl, ?_⟩) hHeld ?_ ?_
  rotate_left
  · rintro w' ⟨s0_, s1_, s2_⟩
    go_simp
    with_reducible rfl
  rotate_left
  · simp only [Act.put, List.setIfInBounds_toArray, List.set_cons_zero, List.set_cons_succ, i64_w, i32_w]
    rfl
  refine one_ (i := 8) (N := (some 28)) #[true, true, true, true, true, true, true, true, true, true, true, true, true, true, true, true, true, false, false, false] rfl rfl (one_of HT_.out (by kernel_rfl)) (by decide) (fun K hK => ?_)
  refine value_ (by rfl) rfl (v := ?_) (w1 := ?_) ?_ ?_
  rotate_left 2
  · (go_simp; first | (with_reducible rfl) | (constructor <;> with_reducible rfl))
  refine hK.out _ _ ⟨C0.out _ (by repeat (first | exact HBW.out | apply below_drew | apply below_alloc | apply pw_below_drewN | exact Nat.le_refl _ | (refine bytes_below ?_ ?_ _ _))), C1.out _ (by repeat (first | exact HBW.out | apply below_drew | apply below_alloc | apply pw_below_drewN | exact Nat.le_refl _ | (refine bytes_below ?_ ?_ _ _))), C2.out _ (by repeat (first | exact HBW.out | apply below_drew | apply below_alloc | apply pw_below_drewN | exact Nat.le_refl _ | (refine bytes_below ?_ ?_ _ _)))⟩ (fun hHeld => ?_)
  clear hK K
  refine norm_ (a' := ?_) ?_ ?_
  rotate_left
  · show Act.put _ (some 28) _ = _
    simp only [Act.put, List.setIfInBounds_toArray, List.set_cons_zero, List.set_cons_succ, i64_w, i32_w]
    rfl
  refine take_ (i := 17) (N := (some 4)) (v := ?_) (a' := ?_) #[true, true, true, true, true, true, true, true, true, true, true, true, true, true, true, true, true, true, false, false] rfl rfl (take_ofW HT_.out HW_.out (by kernel_rfl)) (fun _ _ _ h => h) (Or.inl ⟨by rfl, ?_⟩) hHeld ?_ ?_
  rotate_left
  · rintro w' ⟨s0_, s1_, s2_⟩
    go_simp
    with_reducible rfl
  rotate_left
  · simp only [Act.put, List.setIfInBounds_toArray, List.set_cons_zero, List.set_cons_succ, i64_w, i32_w]
    rfl
  refine take_ (i := 18) (N := (some 5)) (v := ?_) (a' := ?_) #[true, true, true, true, true, true, true, true, true, true, true, true, true, true, true, true, true, true, true, false] rfl rfl (take_ofW HT_.out HW_.out (by kernel_rfl)) (fun _ _ _ h => h) (Or.inl ⟨by rfl, ?_⟩) hHeld ?_ ?_
  rotate_left
  · rintro w' ⟨s0_, s1_, s2_⟩
    go_simp
    with_reducible rfl
  rotate_left
  · simp only [Act.put, List.setIfInBounds_toArray, List.set_cons_zero, List.set_cons_succ, i64_w, i32_w]
    rfl
  refine take_ (i := 19) (N := (some 6)) (v := ?_) (a' := ?_) #[true, true, true, true, true, true, true, true, true, true, true, true, true, true, true, true, true, true, true, true] rfl rfl (take_ofW HT_.out HW_.out (by kernel_rfl)) (fun _ _ _ h => h) (Or.inl ⟨by rfl, ?_⟩) hHeld ?_ ?_
  rotate_left
  · rintro w' ⟨s0_, s1_, s2_⟩
    go_simp
    with_reducible rfl
  rotate_left
  · simp only [Act.put, List.setIfInBounds_toArray, List.set_cons_zero, List.set_cons_succ, i64_w, i32_w]
    rfl
  refine done_ (done_of HT_.out (by kernel_rfl)) ?_
  go_wp2
  go_ret3
  exact ⟨_, _, rfl, (show Kd.C (Kd.int .u8) (Lib.bytesWorld w.drew 5 s) (some ⟨w.heap.size, 0, none⟩) s.size (bytesOf s) from Kd.C_of_reads (enc := Value.int .u8) (d := (0 : Int)) (h1 := fun _ => rfl) (bytes_reads w.drew 5 s (by have := HSZ.out; omega))), (by repeat (first | exact HBW.out | apply below_drew | apply below_alloc | apply pw_below_drewN | exact Nat.le_refl _ | (refine bytes_below ?_ ?_ _ _)))⟩
end Go.Proofs.Ytecaifadcggijaa.Obj
