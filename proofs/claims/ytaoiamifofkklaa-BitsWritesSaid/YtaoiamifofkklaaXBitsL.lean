/- Contracts of Go functions that the claims of this seat share. -/
import Derived.Test.YtaoiamifofkklaaProg
import Derived.Below
import Derived.Deep.Draws
import Derived.Deep.AppendLies
import Derived.Maps.AppendAt
import Derived.OwnWalk
import Derived.Laws.BytesArg
import Derived.Laws.MakeOwn
import Derived.Laws.OwnMore
import Derived.Deep.OwnRows
import Derived.Tactics
import Derived.Lib.ConvBytes
import Derived.Laws.Slices
import Derived.WalkKit
import Derived.KernelRfl
import Derived.RowKit3
import Derived.Deep.LoopGhost
import Derived.Deep.QuietTactic
import Derived.BigQuiet
import Derived.WideLaws
import Derived.Deep.DeepCutAuto
import Derived.Deep.CutBlock
import Derived.Deep.RegionHeld3
import Derived.Laws.Rows
import Derived.Lib.AppendStr
import Derived.ArgAppend
import Derived.Laws.IdiomCopy
import Derived.OrdersHeld
import Derived.Laws.BitsLemmas
import Derived.RowKit
import Derived.Test.YtaoiamifofkklaaWWords
import Derived.Test.YtaoiamifofkklaaWLast
import Derived.Test.YtaoiamifofkklaaWTab
import Derived.Test.YtaoiamifofkklaaWFour
import Derived.Test.YtaoiamifofkklaaWQPut
import Derived.Test.YtaoiamifofkklaaWApart
import Derived.Test.YtaoiamifofkklaaWArr
import Derived.Test.YtaoiamifofkklaaWZeros
import Derived.Test.YtaoiamifofkklaaWFoot
import Derived.Test.YtaoiamifofkklaaWKept
import Derived.Test.YtaoiamifofkklaaWShare
import Derived.Test.YtaoiamifofkklaaWN
import Derived.Test.YtaoiamifofkklaaWFootNe
import Derived.Test.YtaoiamifofkklaaWAt
import Derived.Test.YtaoiamifofkklaaWEqStruct
import Derived.Test.YtaoiamifofkklaaWRepsOne
import Derived.Test.YtaoiamifofkklaaWInv
import Derived.Test.YtaoiamifofkklaaWInvWords
import Derived.Test.YtaoiamifofkklaaWGuard
import Derived.Test.YtaoiamifofkklaaWNEv
import Derived.Test.YtaoiamifofkklaaWMore
import Derived.Test.YtaoiamifofkklaaX0Mem
import Derived.Test.YtaoiamifofkklaaX1Pure
import Derived.Test.YtaoiamifofkklaaXBitsK
namespace Go.Proofs.Ytaoiamifofkklaa.Obj
open Go.RowKit Go.Proofs.YtaoiamifofkklaaW.PrintWords Go.Proofs.YtaoiamifofkklaaW.PrintLast Go.Proofs.YtaoiamifofkklaaW.PrintMore
set_option linter.unusedVariables false
set_option linter.unusedSimpArgs false
def bw.T8 : Bool × List (List Nat × List Nat) := (true, [([], []), ([], []), ([1], [1]), ([2], [2]), ([3], [3]), ([], []), ([], []), ([5, 6], [5, 6]), ([7], [7]), ([8], [8]), ([9], [9]), ([4, 10], [4, 10]), ([0, 0, 1, 2, 3, 4, 5, 6, 7, 8, 9, 10, 11], [0]), ([12, 0, 1, 2, 3, 4, 5, 6, 7, 8, 9, 10, 11], [12]), ([13, 11, 11, 0, 1, 2, 3, 4, 5, 6, 7, 8, 9, 10, 11], [11, 13])])
def bw.B8 : List Nat := [0, 0, 2, 6, 14, 0, 0, 96, 224, 480, 992, 2046, 4095, 8191, 16383]
theorem bw.tab8 : rtab .any (opsOf Try.f16 8) = bw.T8 := by kernel_rfl
theorem bw.bits8 : waitsOk bw.T8.2 bw.B8 = true := by kernel_rfl
theorem bo_info : (Try.prog.info? 4).map (fun i => (i.zero, i.size, i.bytes)) = some (some (.bool false), 1, 1) := by kernel_rfl
section
variable {P : Program} {ops : Array Oper} {rest : List Oper} {o : Oper} {a : Act} {Q : Exit → Act → World → Prop}
theorem x_append_b {w0 W : World} (base : Nat) (hgd : o.guard = none) (s x : Operand) (t e : TypeId)
    (ho : o.op = .call { callee := .builtin .append, args := #[s, x], argTypes := #[t, t] })
    (ht : P.underlying t = some (.slice e)) (hinfo : (P.info? e).map (fun i => (i.zero, i.size, i.bytes)) = some (some (.bool false), 1, 1))
    (v : Value) (xs : List Bool) (y : Bool) (hs : a.eval s = v) (hx : a.eval x = .slice (some ⟨W.heap.size, 0, none⟩) 1 1)
    (HO : Kd.R Kd.bool e W base (fun _ => True) v xs) (HB : Below base w0 W) (hbase : base ≤ W.heap.size) (hl : xs.length + 1 ≤ 140737488355328)
    (h : ∀ v1 w1, Kd.R Kd.bool e w1 base (fun _ => True) v1 (xs ++ [y]) → Below base w0 w1 → W.grownBy w1 v.ownBlock → (v1.ownBlock = v.ownBlock ∨ ∃ b, v1.ownBlock = some b ∧ W.heap.size ≤ b) → wpList P ops Q rest (a.put o.dst v1) w1) :
    wpList P ops Q (o :: rest) a (W.alloc (.cells #[.bool y] e)) :=
  print_append_of (w0 := w0) (W := W) Value.bool base hgd s x t e (.bool false) 1 ho ht hinfo rfl (by decide) v xs y hs hx rfl (Kd.own_of_R (enc := Value.bool) (h1 := fun _ => rfl) HO) HB hbase (by omega)
    (fun v1 w1 h1 h2 h3 h4 => h v1 w1 (Kd.R_of_own (enc := Value.bool) (h1 := fun _ => rfl) h1 (fun _ _ => trivial)) h2 h3 h4)
end
theorem x_lit_b (W : World) (e : TypeId) (y : Bool) : Kd.bool.C (W.alloc (.cells #[.bool y] e)) (some ⟨W.heap.size, 0, none⟩) 1 [y] := by
  refine ⟨rfl, by omega, fun _ => ⟨_, rfl, fun j p hj => ?_⟩⟩
  have hj0 : j = 0 := by
    have := (List.getElem?_eq_some_iff.1 hj).1
    simp at this; omega
  subst hj0
  obtain rfl : y = p := by simpa using hj
  refine ⟨[.bool y], rfl, rfl, fun i u hu => ?_⟩
  have hi0 : i = 0 := by
    have := (List.getElem?_eq_some_iff.1 hu).1
    simp at this; omega
  subst hi0
  obtain rfl : Value.bool y = u := by simpa using hu
  exact (blk_cell (blk_new W _) 0).trans rfl
/-- the reference's writer -/
def Wv (w : World) (base B : Nat) (v : Value) (l : List Bool) : Prop :=
  base ≤ B ∧ w.heap[B]? = some (.cells #[v] 30 (0, 0)) ∧ Kd.R Kd.bool 4 w base (fun _ => True) v l
theorem Wv.ne {w : World} {base B : Nat} {v : Value} {l : List Bool} (h : Wv w base B v l) : some B ≠ v.ownBlock := by
  obtain ⟨inner, ho⟩ := Kd.R_own h.2.2
  exact own_ne ho h.2.1 (by decide)
theorem Wv.drew {w : World} {base B : Nat} {v : Value} {l : List Bool} (h : Wv w base B v l) : Wv w.drew base B v l := ⟨h.1, h.2.1, Kd.R_drew h.2.2⟩
theorem Wv.drewN {w : World} {base B : Nat} {v : Value} {l : List Bool} (h : Wv w base B v l) (k : Nat) : Wv (w.drewN k) base B v l := ⟨h.1, h.2.1, Kd.R_drewN h.2.2 k⟩
theorem Wv.below {w w' : World} {base B : Nat} {v : Value} {l : List Bool} (h : Wv w base B v l) (hb : Below w.heap.size w w') : Wv w' base B v l := ⟨h.1, blk_below h.2.1 hb, Kd.R_below h.2.2 hb⟩
theorem blk_sets {w : World} {B : Nat} {v u : Value} {t : TypeId} (h : w.heap[B]? = some (.cells #[v] t (0, 0))) : (w.setCell ⟨B, 0, none⟩ u).heap[B]? = some (.cells #[u] t (0, 0)) := by simp [World.setCell, Array.getElem?_modify, h]
theorem test_one (n k : Nat) (hn : n < 18446744073709551616) : (Go.bits .and .u64 ((n : Int) / 2 ^ k) 1 == 1) = n.testBit k := by
  rw [test_bit n k hn]; cases n.testBit k <;> decide
theorem bo_set {w : World} {base B : Nat} {v : Value} {l : List Bool} (hR : Kd.R Kd.bool 4 w base (fun _ => True) v l) (hne : some B ≠ v.ownBlock) (j : Nat) (u : Value) : Kd.R Kd.bool 4 (w.setCell ⟨B, j, none⟩ u) base (fun _ => True) v l :=
  Kd.R_mono (Kd.R_far (Kd.R_far1 hR rfl hne) (fun k hk => hk.2) u) (fun _ _ => trivial)
theorem rv_step {wr w1 : World} {B base g1 c2 c1 : Nat} {A1 : Option Addr} {L : List Bool} {b : Bool} {o : Obj} (h : Wv wr base B (.slice A1 L.length c1) L) (ho1 : Kd.R Kd.bool 4 w1 base (fun _ => True) (.slice (some ⟨g1, 0, none⟩) (L.length + 1) c2) (L ++ [b])) (hb1 : Below base wr w1)
    (hg1 : (wr.alloc o).drew.grownBy w1 (Value.slice A1 L.length c1).ownBlock) (hn1 : (Value.slice (some ⟨g1, 0, none⟩) (L.length + 1) c2).ownBlock = (Value.slice A1 L.length c1).ownBlock ∨ ∃ b, (Value.slice (some ⟨g1, 0, none⟩) (L.length + 1) c2).ownBlock = some b ∧ (wr.alloc o).drew.heap.size ≤ b) :
    Wv (w1.setCell ⟨B, 0, none⟩ (.slice (some ⟨g1, 0, none⟩) (L.length + 1) c2)) base B (.slice (some ⟨g1, 0, none⟩) (L.length + 1) c2) (L ++ [b]) ∧ Mv B (.slice A1 L.length c1) wr (.slice (some ⟨g1, 0, none⟩) (L.length + 1) c2) (w1.setCell ⟨B, 0, none⟩ (.slice (some ⟨g1, 0, none⟩) (L.length + 1) c2)) ∧ Below base wr (w1.setCell ⟨B, 0, none⟩ (.slice (some ⟨g1, 0, none⟩) (L.length + 1) c2)) := by
  have hB0 := blk_lt h.2.1
  have hsz : wr.heap.size ≤ (wr.alloc o).drew.heap.size := ((Below.refl 0 wr).alloc (Nat.zero_le _) o).size
  have hblk := ((hg1.block B (Nat.lt_of_lt_of_le hB0 hsz) h.ne).trans (Below.heap_alloc wr o B hB0)).trans h.2.1
  have hne1 : some B ≠ (Value.slice (some ⟨g1, 0, none⟩) (L.length + 1) c2).ownBlock := by
    obtain ⟨inner, hi⟩ := Kd.R_own ho1
    exact own_ne hi hblk (by decide)
  refine ⟨⟨h.1, blk_sets hblk, bo_set ho1 hne1 _ _⟩, ⟨?_, ?_⟩, hb1.setCell (p := ⟨B, 0, none⟩) h.1 _⟩
  · exact (Kept.of_grown hg1 ((Kept.refl _ _).alloc _).drew (fun k hk => .inl (.inr hk.symm))).setCell (p := ⟨B, 0, none⟩) (.inl (.inl rfl)) _
  · rcases hn1 with h | ⟨b, h1, h2⟩
    · exact .inl h
    · exact .inr ⟨b, h1, Nat.le_trans hsz h2⟩
set_option maxHeartbeats 4000000 in
set_option maxRecDepth 100000 in
theorem rv_put0 (B base : Nat) (v : Value) (l : List Bool) (n wd : Nat) (w : World) (h : Wv w base B v l) (hw : wd ≤ 64) (hn : n < 18446744073709551616) (hz : wd < 64 → n / 2 ^ wd = 0) (hl : l.length + wd ≤ 8192) :
    Calls Try.prog 16 #[.pointer (some ⟨B, 0, none⟩), .int .u64 n, .int .i64 wd] w fun e w' => ∃ v', e = .returned (.int .i64 0) ∧ Wv w' base B v' (l ++ bitsOf n wd) ∧ Mv B v w v' w' ∧ Below base w w' := by
  have hu := Try.underlying30
  obtain ⟨A0, cap, rfl, hlc, hC⟩ := Kd.R_reads h.2.2
  have g0 := (blk_cell h.2.1 0).trans rfl
  have HW := Aside0.mk h
  obtain ⟨ll, hll⟩ : ∃ ll, l.length = ll := ⟨_, rfl⟩
  rw [hll] at g0 hl
  have HLL := Aside0.mk hll
  clear h hC hlc hll
  by_cases h64 : wd < 64
  · have hz' : ((n : Int) / 2 ^ wd != 0) = false := by
      have := hz h64
      rw [bne_eq_false_iff_eq]
      have e : (n : Int) / 2 ^ wd = ((n / 2 ^ wd : Nat) : Int) := by simp
      rw [e, this]; rfl
    clear hz
    go_enter Try.func16, Try.ntmps16
    go_wp2
    go_loopw [7] (fun v7 wr => ∃ k : Nat, k ≤ wd ∧ v7 = .int .i64 ((k : Int) - 1) ∧ ∃ vr, Aside0 (Wv wr base B vr (l ++ (bitsOf n wd).take (wd - k))) ∧ Aside0 (Mv B (.slice A0 l.length cap) w vr wr) ∧ Aside0 (Below base w wr)) (fun v7 _ => (intOf v7 + 1).toNat)
    case atStart => exact ⟨wd, Nat.le_refl _, rfl, (.slice A0 l.length cap), by simpa using HW, ⟨Mv.refl _ _ _⟩, ⟨Below.refl _ _⟩⟩
    case round =>
      obtain ⟨k, hk, rfl, vr, KW, KM, KB⟩ := hrel
      rcases k with _ | j
      · go_wp2
        go_ret
        refine ⟨vr, rfl, ?_, KM.out, KB.out⟩
        have q := KW.out
        rwa [Nat.sub_zero, List.take_of_length_le (by rw [bitsOf_len]; exact Nat.le_refl _)] at q
      · have e1 : ((j + 1 : Nat) : Int) - 1 = (j : Int) := by omega
        rw [e1]
        clear e1
        have hs := bits_step n wd j l hk
        obtain ⟨L, hL⟩ : ∃ L, l ++ (bitsOf n wd).take (wd - (j + 1)) = L := ⟨_, rfl⟩
        have hLl : L.length ≤ 8192 := by rw [← hL, List.length_append, List.length_take, bitsOf_len, HLL.out]; omega
        rw [hL] at hs KW
        have HS := Aside0.mk hs
        obtain ⟨A1, c1, rfl, hlc1, hC1⟩ := Kd.R_reads KW.out.2.2
        have q0 := (blk_cell KW.out.2.1 0).trans rfl
        have f0 := blk_frozen KW.out.2.1 0
        have ht := test_one n j hn
        have hB0 := blk_lt KW.out.2.1
        have HBB := Aside0.mk (Nat.le_trans KW.out.1 (Nat.le_of_lt hB0))
        have HLB := Aside0.mk hLl
        clear hs hL hLl hlc1 hC1 HW g0
        go_wp2
        have hne := KW.out.ne
        have hnn := World.new_ne wr ⟨B, 0, none⟩ q0
        have fz : ∀ W' : World, W'.heap[B]? = wr.heap[B]? → W'.frozen? ⟨B, 0, none⟩ = false := fun W' h => blk_frozen (h.trans KW.out.2.1) 0
        have q1 : wr.drew.cell? ⟨B, 0, none⟩ = some (.slice A1 L.length c1) := q0
        refine start_ (n := 15) (S := fun w' => True) (ds := []) #[false, false, false, false, false, false, false, false, false, false, false, false, false, false, false] (by kernel_rfl) rfl rfl trivial (fun hHeld => ?_); refine with_tabW bw.tab8 bw.bits8 (fun HT_ HW_ => ?_)
        refine take_ (i := 0) (N := (some 38)) (v := ?_) (a' := ?_) #[true, false, false, false, false, false, false, false, false, false, false, false, false, false, false] rfl rfl (take_ofW HT_.out HW_.out (by kernel_rfl)) (fun _ _ _ h => h) (Or.inl ⟨by rfl, ?_⟩) hHeld ?_ ?_
        rotate_left
        · rintro w' _
          go_simp
          with_reducible rfl
        rotate_left
        · simp only [Act.put, List.setIfInBounds_toArray, List.set_cons_zero, List.set_cons_succ, i64_w, i32_w]
          rfl
        refine take_ (i := 1) (N := (some 39)) (v := ?_) (a' := ?_) #[true, true, false, false, false, false, false, false, false, false, false, false, false, false, false] rfl rfl (take_ofW HT_.out HW_.out (by kernel_rfl)) (fun _ _ _ h => h) (Or.inl ⟨by rfl, ?_⟩) hHeld ?_ ?_
        rotate_left
        · rintro w' _
          go_simp
          with_reducible rfl
        rotate_left
        · simp only [Act.put, List.setIfInBounds_toArray, List.set_cons_zero, List.set_cons_succ, i64_w, i32_w]
          rfl
        refine take_ (i := 2) (N := (some 40)) (v := ?_) (a' := ?_) #[true, true, true, false, false, false, false, false, false, false, false, false, false, false, false] rfl rfl (take_ofW HT_.out HW_.out (by kernel_rfl)) (fun _ _ _ h => h) (Or.inl ⟨by rfl, ?_⟩) hHeld ?_ ?_
        rotate_left
        · rintro w' _
          go_simp
          with_reducible rfl
        rotate_left
        · simp only [Act.put, List.setIfInBounds_toArray, List.set_cons_zero, List.set_cons_succ, i64_w, i32_w]
          rfl
        refine take_ (i := 3) (N := (some 41)) (v := ?_) (a' := ?_) #[true, true, true, true, false, false, false, false, false, false, false, false, false, false, false] rfl rfl (take_ofW HT_.out HW_.out (by kernel_rfl)) (fun _ _ _ h => h) (Or.inl ⟨by rfl, ?_⟩) hHeld ?_ ?_
        rotate_left
        · rintro w' _
          go_simp
          with_reducible rfl
        rotate_left
        · simp only [Act.put, List.setIfInBounds_toArray, List.set_cons_zero, List.set_cons_succ, i64_w, i32_w]
          rfl
        refine take_ (i := 5) (N := (some 43)) (v := ?_) (a' := ?_) #[true, true, true, true, false, true, false, false, false, false, false, false, false, false, false] rfl rfl (take_ofW HT_.out HW_.out (by kernel_rfl)) (fun _ _ _ h => h) (Or.inl ⟨by rfl, ?_⟩) hHeld ?_ ?_
        rotate_left
        · rintro w' _
          go_simp
          with_reducible rfl
        rotate_left
        · simp only [Act.put, List.setIfInBounds_toArray, List.set_cons_zero, List.set_cons_succ, i64_w, i32_w]
          rfl
        refine take_ (i := 6) (N := (some 44)) (v := ?_) (a' := ?_) #[true, true, true, true, false, true, true, false, false, false, false, false, false, false, false] rfl rfl (take_ofW HT_.out HW_.out (by kernel_rfl)) (fun _ _ _ h => h) (Or.inl ⟨by rfl, ?_⟩) hHeld ?_ ?_
        rotate_left
        · rintro w' _
          go_simp
          with_reducible rfl
        rotate_left
        · simp only [Act.put, List.setIfInBounds_toArray, List.set_cons_zero, List.set_cons_succ, i64_w, i32_w]
          rfl
        refine take_ (i := 7) (N := (some 45)) (v := ?_) (a' := ?_) #[true, true, true, true, false, true, true, true, false, false, false, false, false, false, false] rfl rfl (take_ofW HT_.out HW_.out (by kernel_rfl)) (fun _ _ _ h => h) (Or.inl ⟨by rfl, ?_⟩) hHeld ?_ ?_
        rotate_left
        · rintro w' _
          go_simp
          with_reducible rfl
        rotate_left
        · simp only [Act.put, List.setIfInBounds_toArray, List.set_cons_zero, List.set_cons_succ, i64_w, i32_w]
          rfl
        refine take_ (i := 8) (N := (some 46)) (v := ?_) (a' := ?_) #[true, true, true, true, false, true, true, true, true, false, false, false, false, false, false] rfl rfl (take_ofW HT_.out HW_.out (by kernel_rfl)) (fun _ _ _ h => h) (Or.inl ⟨by rfl, ?_⟩) hHeld ?_ ?_
        rotate_left
        · rintro w' _
          go_simp
          with_reducible rfl
        rotate_left
        · simp only [Act.put, List.setIfInBounds_toArray, List.set_cons_zero, List.set_cons_succ, i64_w, i32_w]
          rfl
        refine take_ (i := 9) (N := (some 47)) (v := ?_) (a' := ?_) #[true, true, true, true, false, true, true, true, true, true, false, false, false, false, false] rfl rfl (take_ofW HT_.out HW_.out (by kernel_rfl)) (fun _ _ _ h => h) (Or.inl ⟨by rfl, ?_⟩) hHeld ?_ ?_
        rotate_left
        · rintro w' _
          go_simp
          with_reducible rfl
        rotate_left
        · simp only [Act.put, List.setIfInBounds_toArray, List.set_cons_zero, List.set_cons_succ, i64_w, i32_w]
          rfl
        refine two_ (i := 4) (j := 10) (Ni := (some 42)) (Nj := (some 48)) #[true, true, true, true, true, true, true, true, true, true, false, false, false, false, false] #[true, true, true, true, false, true, true, true, true, true, true, false, false, false, false] rfl rfl rfl rfl (two_of HT_.out (by kernel_rfl)) (by decide) (by decide) (fun K hK => ?_)  (fun K hK => ?_)
        · skip
          refine value_ (by rfl) rfl (v := ?_) (w1 := ?_) ?_ ?_
          rotate_left 2
          · (go_simp; first | (with_reducible rfl) | (constructor <;> with_reducible rfl))
          refine hK.out _ _ trivial (fun hHeld => ?_)
          clear hK K
          refine norm_ (a' := ?_) ?_ ?_
          rotate_left
          · show Act.put _ (some 42) _ = _
            simp only [Act.put, List.setIfInBounds_toArray, List.set_cons_zero, List.set_cons_succ, i64_w, i32_w]
            rfl
          refine one_ (i := 10) (N := (some 48)) #[true, true, true, true, true, true, true, true, true, true, true, false, false, false, false] rfl rfl (one_of HT_.out (by kernel_rfl)) (by decide) (fun K hK => ?_)
          refine value_ (by rfl) rfl (v := ?_) (w1 := ?_) ?_ ?_
          rotate_left 2
          · (go_simp; first | (with_reducible rfl) | (constructor <;> with_reducible rfl))
          refine hK.out _ _ trivial (fun hHeld => ?_)
          clear hK K
          refine norm_ (a' := ?_) ?_ ?_
          rotate_left
          · show Act.put _ (some 48) _ = _
            simp only [Act.put, List.setIfInBounds_toArray, List.set_cons_zero, List.set_cons_succ, i64_w, i32_w]
            rfl
          refine one_ (i := 11) (N := (some 49)) #[true, true, true, true, true, true, true, true, true, true, true, true, false, false, false] rfl rfl (one_of HT_.out (by kernel_rfl)) (by decide) (fun K hK => ?_)
          refine Kd.R_append_rows_step Kd.bool (w0 := wr) base (by rfl) (.tmp 42) (.tmp 48) 28 4 (.bool false) 1 rfl Try.underlying28 bo_info rfl (by decide) (by omega) (.slice A1 L.length c1) L [n.testBit j] (some ⟨wr.heap.size, 0, none⟩) 1 1 (fun _ => True) (fun _ => False) rfl rfl (Kd.R_alloc (Kd.R_drew KW.out.2.2) _) (x_lit_b wr.drew 4 (n.testBit j)) (fun _ _ h => h) (fun _ h => h.elim) (fun _ _ => trivial) (((Below.refl base wr).alloc HBB.out _).drew) (Nat.le_trans HBB.out (((Below.refl base wr).alloc HBB.out _).drew).size) (by have := HLB.out; simp; omega) ?_
          intro v1 w1 ho1 hb1 hg1 hn1
          obtain ⟨g1, c2, rfl, _⟩ := Kd.R_form ho1 (by simp)
          have r0 := cell_grown hg1 ((World.cell?_alloc_lt _ _ _ hB0).trans q0) hne
          have r1 := fz w1 ((hg1.block B (Nat.lt_of_lt_of_le hB0 ((Below.refl 0 wr).alloc (Nat.zero_le _) _).size) hne).trans (Below.heap_alloc wr _ B hB0))
          rw [List.length_append] at ho1
          refine hK.out _ _ trivial (fun hHeld => ?_)
          clear hK K
          refine norm_ (a' := ?_) ?_ ?_
          rotate_left
          · show Act.put _ (some 49) _ = _
            simp only [Act.put, List.setIfInBounds_toArray, List.set_cons_zero, List.set_cons_succ, i64_w, i32_w]
            rfl
          refine take_ (i := 12) (N := (some 50)) (v := ?_) (a' := ?_) #[true, true, true, true, true, true, true, true, true, true, true, true, true, false, false] rfl rfl (take_ofW HT_.out HW_.out (by kernel_rfl)) (fun _ _ _ h => h) (Or.inl ⟨by rfl, ?_⟩) hHeld ?_ ?_
          rotate_left
          · rintro w' _
            go_simp
            with_reducible rfl
          rotate_left
          · simp only [Act.put, List.setIfInBounds_toArray, List.set_cons_zero, List.set_cons_succ, i64_w, i32_w]
            rfl
          refine take_ (i := 13) (N := (some 51)) (v := ?_) (a' := ?_) #[true, true, true, true, true, true, true, true, true, true, true, true, true, true, false] rfl rfl (take_ofW HT_.out HW_.out (by kernel_rfl)) (fun _ _ _ h => h) (Or.inl ⟨by rfl, ?_⟩) hHeld ?_ ?_
          rotate_left
          · rintro w' _
            go_simp
            with_reducible rfl
          rotate_left
          · simp only [Act.put, List.setIfInBounds_toArray, List.set_cons_zero, List.set_cons_succ, i64_w, i32_w]
            rfl
          refine one_ (i := 14) (N := none) #[true, true, true, true, true, true, true, true, true, true, true, true, true, true, true] rfl rfl (one_of HT_.out (by kernel_rfl)) (by decide) (fun K hK => ?_)
          refine skip_ (by rfl) rfl (w1 := ?_) ?_ ?_
          rotate_left 1
          · (go_simp; first | (with_reducible rfl) | trace_state)
          refine hK.out _ _ trivial (fun hHeld => ?_)
          clear hK K
          refine done_ (done_of HT_.out (by kernel_rfl)) ?_
          obtain ⟨hw3, hm3, hb3⟩ := rv_step KW.out ho1 hb1 hg1 hn1
          have HW3 := Aside0.mk hw3
          have HM3 := Aside0.mk hm3
          have HB3 := Aside0.mk hb3
          clear hw3 hm3 hb3 ho1 hb1 hg1 hn1 r0 r1 q0 q1 f0 ht hB0 hne hnn fz
          generalize (w1.setCell ⟨B, 0, none⟩ (Value.slice (some ⟨g1, 0, none⟩) (L.length + 1) c2)) = w3 at HW3 HM3 HB3 ⊢
          go_wp2
          go_roundw
          case rel => exact ⟨j, by omega, rfl, _, ⟨by rw [HS.out]; exact HW3.out⟩, ⟨KM.out.trans HM3.out⟩, ⟨KB.out.trans HB3.out⟩⟩
          case measure => simp [intOf]
        · skip
          refine value_ (by rfl) rfl (v := ?_) (w1 := ?_) ?_ ?_
          rotate_left 2
          · (go_simp; first | (with_reducible rfl) | (constructor <;> with_reducible rfl))
          refine hK.out _ _ trivial (fun hHeld => ?_)
          clear hK K
          refine norm_ (a' := ?_) ?_ ?_
          rotate_left
          · show Act.put _ (some 48) _ = _
            simp only [Act.put, List.setIfInBounds_toArray, List.set_cons_zero, List.set_cons_succ, i64_w, i32_w]
            rfl
          refine one_ (i := 4) (N := (some 42)) #[true, true, true, true, true, true, true, true, true, true, true, false, false, false, false] rfl rfl (one_of HT_.out (by kernel_rfl)) (by decide) (fun K hK => ?_)
          refine value_ (by rfl) rfl (v := ?_) (w1 := ?_) ?_ ?_
          rotate_left 2
          · (go_simp; first | (with_reducible rfl) | (constructor <;> with_reducible rfl))
          refine hK.out _ _ trivial (fun hHeld => ?_)
          clear hK K
          refine norm_ (a' := ?_) ?_ ?_
          rotate_left
          · show Act.put _ (some 42) _ = _
            simp only [Act.put, List.setIfInBounds_toArray, List.set_cons_zero, List.set_cons_succ, i64_w, i32_w]
            rfl
          refine one_ (i := 11) (N := (some 49)) #[true, true, true, true, true, true, true, true, true, true, true, true, false, false, false] rfl rfl (one_of HT_.out (by kernel_rfl)) (by decide) (fun K hK => ?_)
          refine Kd.R_append_rows_step Kd.bool (w0 := wr) base (by rfl) (.tmp 42) (.tmp 48) 28 4 (.bool false) 1 rfl Try.underlying28 bo_info rfl (by decide) (by omega) (.slice A1 L.length c1) L [n.testBit j] (some ⟨wr.heap.size, 0, none⟩) 1 1 (fun _ => True) (fun _ => False) rfl rfl (Kd.R_alloc (Kd.R_drew KW.out.2.2) _) (x_lit_b wr.drew 4 (n.testBit j)) (fun _ _ h => h) (fun _ h => h.elim) (fun _ _ => trivial) (((Below.refl base wr).alloc HBB.out _).drew) (Nat.le_trans HBB.out (((Below.refl base wr).alloc HBB.out _).drew).size) (by have := HLB.out; simp; omega) ?_
          intro v1 w1 ho1 hb1 hg1 hn1
          obtain ⟨g1, c2, rfl, _⟩ := Kd.R_form ho1 (by simp)
          have r0 := cell_grown hg1 ((World.cell?_alloc_lt _ _ _ hB0).trans q0) hne
          have r1 := fz w1 ((hg1.block B (Nat.lt_of_lt_of_le hB0 ((Below.refl 0 wr).alloc (Nat.zero_le _) _).size) hne).trans (Below.heap_alloc wr _ B hB0))
          rw [List.length_append] at ho1
          refine hK.out _ _ trivial (fun hHeld => ?_)
          clear hK K
          refine norm_ (a' := ?_) ?_ ?_
          rotate_left
          · show Act.put _ (some 49) _ = _
            simp only [Act.put, List.setIfInBounds_toArray, List.set_cons_zero, List.set_cons_succ, i64_w, i32_w]
            rfl
          refine take_ (i := 12) (N := (some 50)) (v := ?_) (a' := ?_) #[true, true, true, true, true, true, true, true, true, true, true, true, true, false, false] rfl rfl (take_ofW HT_.out HW_.out (by kernel_rfl)) (fun _ _ _ h => h) (Or.inl ⟨by rfl, ?_⟩) hHeld ?_ ?_
          rotate_left
          · rintro w' _
            go_simp
            with_reducible rfl
          rotate_left
          · simp only [Act.put, List.setIfInBounds_toArray, List.set_cons_zero, List.set_cons_succ, i64_w, i32_w]
            rfl
          refine take_ (i := 13) (N := (some 51)) (v := ?_) (a' := ?_) #[true, true, true, true, true, true, true, true, true, true, true, true, true, true, false] rfl rfl (take_ofW HT_.out HW_.out (by kernel_rfl)) (fun _ _ _ h => h) (Or.inl ⟨by rfl, ?_⟩) hHeld ?_ ?_
          rotate_left
          · rintro w' _
            go_simp
            with_reducible rfl
          rotate_left
          · simp only [Act.put, List.setIfInBounds_toArray, List.set_cons_zero, List.set_cons_succ, i64_w, i32_w]
            rfl
          refine one_ (i := 14) (N := none) #[true, true, true, true, true, true, true, true, true, true, true, true, true, true, true] rfl rfl (one_of HT_.out (by kernel_rfl)) (by decide) (fun K hK => ?_)
          refine skip_ (by rfl) rfl (w1 := ?_) ?_ ?_
          rotate_left 1
          · (go_simp; first | (with_reducible rfl) | trace_state)
          refine hK.out _ _ trivial (fun hHeld => ?_)
          clear hK K
          refine done_ (done_of HT_.out (by kernel_rfl)) ?_
          obtain ⟨hw3, hm3, hb3⟩ := rv_step KW.out ho1 hb1 hg1 hn1
          have HW3 := Aside0.mk hw3
          have HM3 := Aside0.mk hm3
          have HB3 := Aside0.mk hb3
          clear hw3 hm3 hb3 ho1 hb1 hg1 hn1 r0 r1 q0 q1 f0 ht hB0 hne hnn fz
          generalize (w1.setCell ⟨B, 0, none⟩ (Value.slice (some ⟨g1, 0, none⟩) (L.length + 1) c2)) = w3 at HW3 HM3 HB3 ⊢
          go_wp2
          go_roundw
          case rel => exact ⟨j, by omega, rfl, _, ⟨by rw [HS.out]; exact HW3.out⟩, ⟨KM.out.trans HM3.out⟩, ⟨KB.out.trans HB3.out⟩⟩
          case measure => simp [intOf]
  · clear hz
    go_enter Try.func16, Try.ntmps16
    go_wp2
    go_loopw [7] (fun v7 wr => ∃ k : Nat, k ≤ wd ∧ v7 = .int .i64 ((k : Int) - 1) ∧ ∃ vr, Aside0 (Wv wr base B vr (l ++ (bitsOf n wd).take (wd - k))) ∧ Aside0 (Mv B (.slice A0 l.length cap) w vr wr) ∧ Aside0 (Below base w wr)) (fun v7 _ => (intOf v7 + 1).toNat)
    case atStart => exact ⟨wd, Nat.le_refl _, rfl, (.slice A0 l.length cap), by simpa using HW, ⟨Mv.refl _ _ _⟩, ⟨Below.refl _ _⟩⟩
    case round =>
      obtain ⟨k, hk, rfl, vr, KW, KM, KB⟩ := hrel
      rcases k with _ | j
      · go_wp2
        go_ret
        refine ⟨vr, rfl, ?_, KM.out, KB.out⟩
        have q := KW.out
        rwa [Nat.sub_zero, List.take_of_length_le (by rw [bitsOf_len]; exact Nat.le_refl _)] at q
      · have e1 : ((j + 1 : Nat) : Int) - 1 = (j : Int) := by omega
        rw [e1]
        clear e1
        have hs := bits_step n wd j l hk
        obtain ⟨L, hL⟩ : ∃ L, l ++ (bitsOf n wd).take (wd - (j + 1)) = L := ⟨_, rfl⟩
        have hLl : L.length ≤ 8192 := by rw [← hL, List.length_append, List.length_take, bitsOf_len, HLL.out]; omega
        rw [hL] at hs KW
        have HS := Aside0.mk hs
        obtain ⟨A1, c1, rfl, hlc1, hC1⟩ := Kd.R_reads KW.out.2.2
        have q0 := (blk_cell KW.out.2.1 0).trans rfl
        have f0 := blk_frozen KW.out.2.1 0
        have ht := test_one n j hn
        have hB0 := blk_lt KW.out.2.1
        have HBB := Aside0.mk (Nat.le_trans KW.out.1 (Nat.le_of_lt hB0))
        have HLB := Aside0.mk hLl
        clear hs hL hLl hlc1 hC1 HW g0
        go_wp2
        have hne := KW.out.ne
        have hnn := World.new_ne wr ⟨B, 0, none⟩ q0
        have fz : ∀ W' : World, W'.heap[B]? = wr.heap[B]? → W'.frozen? ⟨B, 0, none⟩ = false := fun W' h => blk_frozen (h.trans KW.out.2.1) 0
        have q1 : wr.drew.cell? ⟨B, 0, none⟩ = some (.slice A1 L.length c1) := q0
        refine start_ (n := 15) (S := fun w' => True) (ds := []) #[false, false, false, false, false, false, false, false, false, false, false, false, false, false, false] (by kernel_rfl) rfl rfl trivial (fun hHeld => ?_); refine with_tabW bw.tab8 bw.bits8 (fun HT_ HW_ => ?_)
        refine take_ (i := 0) (N := (some 38)) (v := ?_) (a' := ?_) #[true, false, false, false, false, false, false, false, false, false, false, false, false, false, false] rfl rfl (take_ofW HT_.out HW_.out (by kernel_rfl)) (fun _ _ _ h => h) (Or.inl ⟨by rfl, ?_⟩) hHeld ?_ ?_
        rotate_left
        · rintro w' _
          go_simp
          with_reducible rfl
        rotate_left
        · simp only [Act.put, List.setIfInBounds_toArray, List.set_cons_zero, List.set_cons_succ, i64_w, i32_w]
          rfl
        refine take_ (i := 1) (N := (some 39)) (v := ?_) (a' := ?_) #[true, true, false, false, false, false, false, false, false, false, false, false, false, false, false] rfl rfl (take_ofW HT_.out HW_.out (by kernel_rfl)) (fun _ _ _ h => h) (Or.inl ⟨by rfl, ?_⟩) hHeld ?_ ?_
        rotate_left
        · rintro w' _
          go_simp
          with_reducible rfl
        rotate_left
        · simp only [Act.put, List.setIfInBounds_toArray, List.set_cons_zero, List.set_cons_succ, i64_w, i32_w]
          rfl
        refine take_ (i := 2) (N := (some 40)) (v := ?_) (a' := ?_) #[true, true, true, false, false, false, false, false, false, false, false, false, false, false, false] rfl rfl (take_ofW HT_.out HW_.out (by kernel_rfl)) (fun _ _ _ h => h) (Or.inl ⟨by rfl, ?_⟩) hHeld ?_ ?_
        rotate_left
        · rintro w' _
          go_simp
          with_reducible rfl
        rotate_left
        · simp only [Act.put, List.setIfInBounds_toArray, List.set_cons_zero, List.set_cons_succ, i64_w, i32_w]
          rfl
        refine take_ (i := 3) (N := (some 41)) (v := ?_) (a' := ?_) #[true, true, true, true, false, false, false, false, false, false, false, false, false, false, false] rfl rfl (take_ofW HT_.out HW_.out (by kernel_rfl)) (fun _ _ _ h => h) (Or.inl ⟨by rfl, ?_⟩) hHeld ?_ ?_
        rotate_left
        · rintro w' _
          go_simp
          with_reducible rfl
        rotate_left
        · simp only [Act.put, List.setIfInBounds_toArray, List.set_cons_zero, List.set_cons_succ, i64_w, i32_w]
          rfl
        refine take_ (i := 5) (N := (some 43)) (v := ?_) (a' := ?_) #[true, true, true, true, false, true, false, false, false, false, false, false, false, false, false] rfl rfl (take_ofW HT_.out HW_.out (by kernel_rfl)) (fun _ _ _ h => h) (Or.inl ⟨by rfl, ?_⟩) hHeld ?_ ?_
        rotate_left
        · rintro w' _
          go_simp
          with_reducible rfl
        rotate_left
        · simp only [Act.put, List.setIfInBounds_toArray, List.set_cons_zero, List.set_cons_succ, i64_w, i32_w]
          rfl
        refine take_ (i := 6) (N := (some 44)) (v := ?_) (a' := ?_) #[true, true, true, true, false, true, true, false, false, false, false, false, false, false, false] rfl rfl (take_ofW HT_.out HW_.out (by kernel_rfl)) (fun _ _ _ h => h) (Or.inl ⟨by rfl, ?_⟩) hHeld ?_ ?_
        rotate_left
        · rintro w' _
          go_simp
          with_reducible rfl
        rotate_left
        · simp only [Act.put, List.setIfInBounds_toArray, List.set_cons_zero, List.set_cons_succ, i64_w, i32_w]
          rfl
        refine take_ (i := 7) (N := (some 45)) (v := ?_) (a' := ?_) #[true, true, true, true, false, true, true, true, false, false, false, false, false, false, false] rfl rfl (take_ofW HT_.out HW_.out (by kernel_rfl)) (fun _ _ _ h => h) (Or.inl ⟨by rfl, ?_⟩) hHeld ?_ ?_
        rotate_left
        · rintro w' _
          go_simp
          with_reducible rfl
        rotate_left
        · simp only [Act.put, List.setIfInBounds_toArray, List.set_cons_zero, List.set_cons_succ, i64_w, i32_w]
          rfl
        refine take_ (i := 8) (N := (some 46)) (v := ?_) (a' := ?_) #[true, true, true, true, false, true, true, true, true, false, false, false, false, false, false] rfl rfl (take_ofW HT_.out HW_.out (by kernel_rfl)) (fun _ _ _ h => h) (Or.inl ⟨by rfl, ?_⟩) hHeld ?_ ?_
        rotate_left
        · rintro w' _
          go_simp
          with_reducible rfl
        rotate_left
        · simp only [Act.put, List.setIfInBounds_toArray, List.set_cons_zero, List.set_cons_succ, i64_w, i32_w]
          rfl
        refine take_ (i := 9) (N := (some 47)) (v := ?_) (a' := ?_) #[true, true, true, true, false, true, true, true, true, true, false, false, false, false, false] rfl rfl (take_ofW HT_.out HW_.out (by kernel_rfl)) (fun _ _ _ h => h) (Or.inl ⟨by rfl, ?_⟩) hHeld ?_ ?_
        rotate_left
        · rintro w' _
          go_simp
          with_reducible rfl
        rotate_left
        · simp only [Act.put, List.setIfInBounds_toArray, List.set_cons_zero, List.set_cons_succ, i64_w, i32_w]
          rfl
        refine two_ (i := 4) (j := 10) (Ni := (some 42)) (Nj := (some 48)) #[true, true, true, true, true, true, true, true, true, true, false, false, false, false, false] #[true, true, true, true, false, true, true, true, true, true, true, false, false, false, false] rfl rfl rfl rfl (two_of HT_.out (by kernel_rfl)) (by decide) (by decide) (fun K hK => ?_)  (fun K hK => ?_)
        · skip
          refine value_ (by rfl) rfl (v := ?_) (w1 := ?_) ?_ ?_
          rotate_left 2
          · (go_simp; first | (with_reducible rfl) | (constructor <;> with_reducible rfl))
          refine hK.out _ _ trivial (fun hHeld => ?_)
          clear hK K
          refine norm_ (a' := ?_) ?_ ?_
          rotate_left
          · show Act.put _ (some 42) _ = _
            simp only [Act.put, List.setIfInBounds_toArray, List.set_cons_zero, List.set_cons_succ, i64_w, i32_w]
            rfl
          refine one_ (i := 10) (N := (some 48)) #[true, true, true, true, true, true, true, true, true, true, true, false, false, false, false] rfl rfl (one_of HT_.out (by kernel_rfl)) (by decide) (fun K hK => ?_)
          refine value_ (by rfl) rfl (v := ?_) (w1 := ?_) ?_ ?_
          rotate_left 2
          · (go_simp; first | (with_reducible rfl) | (constructor <;> with_reducible rfl))
          refine hK.out _ _ trivial (fun hHeld => ?_)
          clear hK K
          refine norm_ (a' := ?_) ?_ ?_
          rotate_left
          · show Act.put _ (some 48) _ = _
            simp only [Act.put, List.setIfInBounds_toArray, List.set_cons_zero, List.set_cons_succ, i64_w, i32_w]
            rfl
          refine one_ (i := 11) (N := (some 49)) #[true, true, true, true, true, true, true, true, true, true, true, true, false, false, false] rfl rfl (one_of HT_.out (by kernel_rfl)) (by decide) (fun K hK => ?_)
          refine Kd.R_append_rows_step Kd.bool (w0 := wr) base (by rfl) (.tmp 42) (.tmp 48) 28 4 (.bool false) 1 rfl Try.underlying28 bo_info rfl (by decide) (by omega) (.slice A1 L.length c1) L [n.testBit j] (some ⟨wr.heap.size, 0, none⟩) 1 1 (fun _ => True) (fun _ => False) rfl rfl (Kd.R_alloc (Kd.R_drew KW.out.2.2) _) (x_lit_b wr.drew 4 (n.testBit j)) (fun _ _ h => h) (fun _ h => h.elim) (fun _ _ => trivial) (((Below.refl base wr).alloc HBB.out _).drew) (Nat.le_trans HBB.out (((Below.refl base wr).alloc HBB.out _).drew).size) (by have := HLB.out; simp; omega) ?_
          intro v1 w1 ho1 hb1 hg1 hn1
          obtain ⟨g1, c2, rfl, _⟩ := Kd.R_form ho1 (by simp)
          have r0 := cell_grown hg1 ((World.cell?_alloc_lt _ _ _ hB0).trans q0) hne
          have r1 := fz w1 ((hg1.block B (Nat.lt_of_lt_of_le hB0 ((Below.refl 0 wr).alloc (Nat.zero_le _) _).size) hne).trans (Below.heap_alloc wr _ B hB0))
          rw [List.length_append] at ho1
          refine hK.out _ _ trivial (fun hHeld => ?_)
          clear hK K
          refine norm_ (a' := ?_) ?_ ?_
          rotate_left
          · show Act.put _ (some 49) _ = _
            simp only [Act.put, List.setIfInBounds_toArray, List.set_cons_zero, List.set_cons_succ, i64_w, i32_w]
            rfl
          refine take_ (i := 12) (N := (some 50)) (v := ?_) (a' := ?_) #[true, true, true, true, true, true, true, true, true, true, true, true, true, false, false] rfl rfl (take_ofW HT_.out HW_.out (by kernel_rfl)) (fun _ _ _ h => h) (Or.inl ⟨by rfl, ?_⟩) hHeld ?_ ?_
          rotate_left
          · rintro w' _
            go_simp
            with_reducible rfl
          rotate_left
          · simp only [Act.put, List.setIfInBounds_toArray, List.set_cons_zero, List.set_cons_succ, i64_w, i32_w]
            rfl
          refine take_ (i := 13) (N := (some 51)) (v := ?_) (a' := ?_) #[true, true, true, true, true, true, true, true, true, true, true, true, true, true, false] rfl rfl (take_ofW HT_.out HW_.out (by kernel_rfl)) (fun _ _ _ h => h) (Or.inl ⟨by rfl, ?_⟩) hHeld ?_ ?_
          rotate_left
          · rintro w' _
            go_simp
            with_reducible rfl
          rotate_left
          · simp only [Act.put, List.setIfInBounds_toArray, List.set_cons_zero, List.set_cons_succ, i64_w, i32_w]
            rfl
          refine one_ (i := 14) (N := none) #[true, true, true, true, true, true, true, true, true, true, true, true, true, true, true] rfl rfl (one_of HT_.out (by kernel_rfl)) (by decide) (fun K hK => ?_)
          refine skip_ (by rfl) rfl (w1 := ?_) ?_ ?_
          rotate_left 1
          · (go_simp; first | (with_reducible rfl) | trace_state)
          refine hK.out _ _ trivial (fun hHeld => ?_)
          clear hK K
          refine done_ (done_of HT_.out (by kernel_rfl)) ?_
          obtain ⟨hw3, hm3, hb3⟩ := rv_step KW.out ho1 hb1 hg1 hn1
          have HW3 := Aside0.mk hw3
          have HM3 := Aside0.mk hm3
          have HB3 := Aside0.mk hb3
          clear hw3 hm3 hb3 ho1 hb1 hg1 hn1 r0 r1 q0 q1 f0 ht hB0 hne hnn fz
          generalize (w1.setCell ⟨B, 0, none⟩ (Value.slice (some ⟨g1, 0, none⟩) (L.length + 1) c2)) = w3 at HW3 HM3 HB3 ⊢
          go_wp2
          go_roundw
          case rel => exact ⟨j, by omega, rfl, _, ⟨by rw [HS.out]; exact HW3.out⟩, ⟨KM.out.trans HM3.out⟩, ⟨KB.out.trans HB3.out⟩⟩
          case measure => simp [intOf]
        · skip
          refine value_ (by rfl) rfl (v := ?_) (w1 := ?_) ?_ ?_
          rotate_left 2
          · (go_simp; first | (with_reducible rfl) | (constructor <;> with_reducible rfl))
          refine hK.out _ _ trivial (fun hHeld => ?_)
          clear hK K
          refine norm_ (a' := ?_) ?_ ?_
          rotate_left
          · show Act.put _ (some 48) _ = _
            simp only [Act.put, List.setIfInBounds_toArray, List.set_cons_zero, List.set_cons_succ, i64_w, i32_w]
            rfl
          refine one_ (i := 4) (N := (some 42)) #[true, true, true, true, true, true, true, true, true, true, true, false, false, false, false] rfl rfl (one_of HT_.out (by kernel_rfl)) (by decide) (fun K hK => ?_)
          refine value_ (by rfl) rfl (v := ?_) (w1 := ?_) ?_ ?_
          rotate_left 2
          · (go_simp; first | (with_reducible rfl) | (constructor <;> with_reducible rfl))
          refine hK.out _ _ trivial (fun hHeld => ?_)
          clear hK K
          refine norm_ (a' := ?_) ?_ ?_
          rotate_left
          · show Act.put _ (some 42) _ = _
            simp only [Act.put, List.setIfInBounds_toArray, List.set_cons_zero, List.set_cons_succ, i64_w, i32_w]
            rfl
          refine one_ (i := 11) (N := (some 49)) #[true, true, true, true, true, true, true, true, true, true, true, true, false, false, false] rfl rfl (one_of HT_.out (by kernel_rfl)) (by decide) (fun K hK => ?_)
          refine Kd.R_append_rows_step Kd.bool (w0 := wr) base (by rfl) (.tmp 42) (.tmp 48) 28 4 (.bool false) 1 rfl Try.underlying28 bo_info rfl (by decide) (by omega) (.slice A1 L.length c1) L [n.testBit j] (some ⟨wr.heap.size, 0, none⟩) 1 1 (fun _ => True) (fun _ => False) rfl rfl (Kd.R_alloc (Kd.R_drew KW.out.2.2) _) (x_lit_b wr.drew 4 (n.testBit j)) (fun _ _ h => h) (fun _ h => h.elim) (fun _ _ => trivial) (((Below.refl base wr).alloc HBB.out _).drew) (Nat.le_trans HBB.out (((Below.refl base wr).alloc HBB.out _).drew).size) (by have := HLB.out; simp; omega) ?_
          intro v1 w1 ho1 hb1 hg1 hn1
          obtain ⟨g1, c2, rfl, _⟩ := Kd.R_form ho1 (by simp)
          have r0 := cell_grown hg1 ((World.cell?_alloc_lt _ _ _ hB0).trans q0) hne
          have r1 := fz w1 ((hg1.block B (Nat.lt_of_lt_of_le hB0 ((Below.refl 0 wr).alloc (Nat.zero_le _) _).size) hne).trans (Below.heap_alloc wr _ B hB0))
          rw [List.length_append] at ho1
          refine hK.out _ _ trivial (fun hHeld => ?_)
          clear hK K
          refine norm_ (a' := ?_) ?_ ?_
          rotate_left
          · show Act.put _ (some 49) _ = _
            simp only [Act.put, List.setIfInBounds_toArray, List.set_cons_zero, List.set_cons_succ, i64_w, i32_w]
            rfl
          refine take_ (i := 12) (N := (some 50)) (v := ?_) (a' := ?_) #[true, true, true, true, true, true, true, true, true, true, true, true, true, false, false] rfl rfl (take_ofW HT_.out HW_.out (by kernel_rfl)) (fun _ _ _ h => h) (Or.inl ⟨by rfl, ?_⟩) hHeld ?_ ?_
          rotate_left
          · rintro w' _
            go_simp
            with_reducible rfl
          rotate_left
          · simp only [Act.put, List.setIfInBounds_toArray, List.set_cons_zero, List.set_cons_succ, i64_w, i32_w]
            rfl
          refine take_ (i := 13) (N := (some 51)) (v := ?_) (a' := ?_) #[true, true, true, true, true, true, true, true, true, true, true, true, true, true, false] rfl rfl (take_ofW HT_.out HW_.out (by kernel_rfl)) (fun _ _ _ h => h) (Or.inl ⟨by rfl, ?_⟩) hHeld ?_ ?_
          rotate_left
          · rintro w' _
            go_simp
            with_reducible rfl
          rotate_left
          · simp only [Act.put, List.setIfInBounds_toArray, List.set_cons_zero, List.set_cons_succ, i64_w, i32_w]
            rfl
          refine one_ (i := 14) (N := none) #[true, true, true, true, true, true, true, true, true, true, true, true, true, true, true] rfl rfl (one_of HT_.out (by kernel_rfl)) (by decide) (fun K hK => ?_)
          refine skip_ (by rfl) rfl (w1 := ?_) ?_ ?_
          rotate_left 1
          · (go_simp; first | (with_reducible rfl) | trace_state)
          refine hK.out _ _ trivial (fun hHeld => ?_)
          clear hK K
          refine done_ (done_of HT_.out (by kernel_rfl)) ?_
          obtain ⟨hw3, hm3, hb3⟩ := rv_step KW.out ho1 hb1 hg1 hn1
          have HW3 := Aside0.mk hw3
          have HM3 := Aside0.mk hm3
          have HB3 := Aside0.mk hb3
          clear hw3 hm3 hb3 ho1 hb1 hg1 hn1 r0 r1 q0 q1 f0 ht hB0 hne hnn fz
          generalize (w1.setCell ⟨B, 0, none⟩ (Value.slice (some ⟨g1, 0, none⟩) (L.length + 1) c2)) = w3 at HW3 HM3 HB3 ⊢
          go_wp2
          go_roundw
          case rel => exact ⟨j, by omega, rfl, _, ⟨by rw [HS.out]; exact HW3.out⟩, ⟨KM.out.trans HM3.out⟩, ⟨KB.out.trans HB3.out⟩⟩
          case measure => simp [intOf]
end Go.Proofs.Ytaoiamifofkklaa.Obj
