/- Contracts of Go functions that the claims of this seat share. -/
import Derived.Test.YtecaifadcggijaaProg
import Derived.Below
import Derived.Deep.Draws
import Derived.Deep.AppendLies
import Derived.Maps.AppendAt
import Derived.OwnWalk
import Derived.Laws.BytesArg
import Derived.Laws.MakeOwn
import Derived.Laws.OwnMore
import Derived.Deep.OwnRows
import Derived.Tactics
import Derived.Lib.ConvBytes
import Derived.Laws.Slices
import Derived.WalkKit
import Derived.KernelRfl
import Derived.RowKit3
import Derived.Deep.LoopGhost
import Derived.Deep.QuietTactic
import Derived.BigQuiet
import Derived.WideLaws
import Derived.Deep.DeepCutAuto
import Derived.Deep.CutBlock
import Derived.Deep.RegionHeld3
import Derived.Laws.Rows
import Derived.Lib.AppendStr
import Derived.ArgAppend
import Derived.Laws.IdiomCopy
import Derived.OrdersHeld
import Derived.Laws.BitsLemmas
import Derived.RowKit
import Derived.Test.YtecaifadcggijaaWWords
import Derived.Test.YtecaifadcggijaaWLast
import Derived.Test.YtecaifadcggijaaWTab
import Derived.Test.YtecaifadcggijaaWFour
import Derived.Test.YtecaifadcggijaaWQPut
import Derived.Test.YtecaifadcggijaaWApart
import Derived.Test.YtecaifadcggijaaWArr
import Derived.Test.YtecaifadcggijaaWZeros
import Derived.Test.YtecaifadcggijaaWFoot
import Derived.Test.YtecaifadcggijaaWKept
import Derived.Test.YtecaifadcggijaaWShare
import Derived.Test.YtecaifadcggijaaWN
import Derived.Test.YtecaifadcggijaaWFootNe
import Derived.Test.YtecaifadcggijaaWAt
import Derived.Test.YtecaifadcggijaaWEqStruct
import Derived.Test.YtecaifadcggijaaWRepsOne
import Derived.Test.YtecaifadcggijaaWInv
import Derived.Test.YtecaifadcggijaaWInvWords
import Derived.Test.YtecaifadcggijaaWGuard
import Derived.Test.YtecaifadcggijaaWNEv
import Derived.Test.YtecaifadcggijaaWMore
import Derived.Test.YtecaifadcggijaaX0Mem
import Derived.Test.YtecaifadcggijaaX1Pure
import Derived.Test.YtecaifadcggijaaXObjA
import Derived.Maps.OwnSet
import Derived.WalkSpells
namespace Go.Proofs.Ytecaifadcggijaa.Obj
open Go.RowKit Go.Proofs.YtecaifadcggijaaW.PrintWords Go.Proofs.YtecaifadcggijaaW.PrintLast Go.Proofs.YtecaifadcggijaaW.PrintMore
set_option linter.unusedVariables false
set_option linter.unusedSimpArgs false
def pa.T9 : Bool × List (List Nat × List Nat) := (true, [([], []), ([], []), ([1], [1]), ([2], [2]), ([3], [3]), ([], []), ([], []), ([6], [6]), ([5, 7], [5, 7]), ([8], [8]), ([4, 9], [4, 9]), ([0, 0, 1, 2, 3, 4, 5, 6, 7, 8, 9, 10], [0]), ([11, 0, 1, 2, 3, 4, 5, 6, 7, 8, 9, 10], [11]), ([12, 10, 10, 0, 1, 2, 3, 4, 5, 6, 7, 8, 9, 10], [10, 12])])
def pa.B9 : List Nat := [0, 0, 2, 6, 14, 0, 0, 64, 224, 480, 1022, 2047, 4095, 8191]
theorem pa.tab9 : rtab .any (opsOf Try.f12 9) = pa.T9 := by kernel_rfl
theorem pa.bits9 : waitsOk pa.T9.2 pa.B9 = true := by kernel_rfl
def ps.T1 : Bool × List (List Nat × List Nat) := (true, [([], []), ([0], [0]), ([1], [1]), ([2, 1], [2]), ([3], [3]), ([4, 3], [3, 4]), ([5, 3], [3, 5]), ([6, 3], [3, 6]), ([3], [3]), ([8, 3], [3, 8]), ([7, 9, 3], [3, 7, 9]), ([3, 10], [3, 10]), ([11, 3, 0, 1, 2, 3, 4, 5, 6, 7, 8, 9, 10, 11], [11])])
def ps.B1 : List Nat := [0, 1, 3, 7, 15, 31, 63, 127, 15, 271, 1023, 2047, 4095]
theorem ps.tab1 : rtab .any (opsOf Try.f15 1) = ps.T1 := by kernel_rfl
theorem ps.bits1 : waitsOk ps.T1.2 ps.B1 = true := by kernel_rfl
open Go.Maps Go.WideMaps
/-! The pool: frames in a row, and a set of their bytes. -/
theorem fl_low {w w' : World} {a : Addr} {v : Value} (h : w.cell? a = some v) (hb : Below w.heap.size w w') : w'.cell? a = some v := pw_cell_below hb h
theorem b_cut {B : Nat} {w w' : World} (h : Below w.heap.size w w') (hB : B ≤ w.heap.size) : Below B w w' := ⟨h.os, h.tape, h.output, h.size, fun i hi => h.block i (by omega)⟩
def ITM : Kd (Int × ByteArray) := Kd.pair (Kd.int .i64) Kd.string
def keyL (s : ByteArray) : Lit := .string s.data.toList
def poolD (xs : List (Int × ByteArray)) : DataW Unit := Maps.setOf (.lit (.bool true)) (xs.map fun x => keyL x.2)
def PM (W : World) (bm n : Nat) (D : DataW Unit) : Prop := W.ownsMap Try.prog 9 (plainElem Try.prog 4) bm n D
theorem poolD_snoc (xs : List (Int × ByteArray)) (x : Int × ByteArray) : poolD (xs ++ [x]) = (poolD xs).put (keyL x.2) (.lit (.bool true)) := by
  unfold poolD
  rw [List.map_append, List.map_cons, List.map_nil, Maps.setOf_snoc]
theorem key_lit (s : ByteArray) : WideAt.IsKeyLit (keyL s) := by
  unfold keyL
  exact trivial
theorem poolD_isMap (xs : List (Int × ByteArray)) : IsMap (poolD xs) := (tidy_setOf _ _ (fun x hx => by obtain ⟨y, _, rfl⟩ := List.mem_map.1 hx; exact key_lit _)).isMap
theorem key_inj {s t : ByteArray} (h : keyL s = keyL t) : s = t := by
  unfold keyL at h
  injection h with h
  cases s; cases t
  congr
  exact Array.toList_inj.1 h
theorem poolD_at (z : DataW Unit) (s : ByteArray) : ∀ ys : List (Int × ByteArray), (poolD ys.reverse).atKey (keyL s) z = if ∃ x ∈ ys, x.2 = s then .lit (.bool true) else z
  | [] => by
    simp [poolD, Maps.setOf]
    rfl
  | y :: ys => by
    rw [List.reverse_cons, poolD_snoc]
    by_cases h : y.2 = s
    · rw [h, atKey_put_same (poolD_isMap _) (key_lit s), if_pos ⟨y, List.mem_cons_self, h⟩]
    · rw [atKey_put_other (fun e => h (key_inj e.symm)), poolD_at z s ys]
      have : (∃ x ∈ y :: ys, x.2 = s) ↔ ∃ x ∈ ys, x.2 = s := by simp [h]
      simp only [this]
theorem poolD_sent (s : ByteArray) (xs : List (Int × ByteArray)) : (poolD xs).atKey (keyL s) (.lit (.bool false)) = .lit (.bool (decide (∃ x ∈ xs, x.2 = s))) := by
  have h := poolD_at (.lit (.bool false)) s xs.reverse
  rw [List.reverse_reverse] at h
  rw [h]
  by_cases hx : ∃ x ∈ xs, x.2 = s
  · have : ∃ x ∈ xs.reverse, x.2 = s := by simpa using hx
    rw [if_pos this, decide_eq_true hx]
  · have : ¬ ∃ x ∈ xs.reverse, x.2 = s := by simpa using hx
    rw [if_neg this, decide_eq_false hx]
def PL (W : World) (base P : Nat) (v : Value) (bm : Nat) (xs : List (Int × ByteArray)) : Prop :=
  base ≤ P ∧ base ≤ bm ∧ W.heap[P]? = some (.cells #[v, .map (some bm)] 49 (0, 0)) ∧ Kd.R ITM 74 W base (fun _ => True) v xs ∧ PM W bm xs.length (poolD xs)
set_option maxHeartbeats 4000000 in
set_option maxRecDepth 100000 in
theorem pl_none (P bm : Nat) (w : World) (h : w.cell? ⟨P, 1, none⟩ = some (.map (some bm))) : Calls Try.prog 37 #[.pointer (some ⟨P, 0, none⟩)] w fun e w' => e = .returned (.bool false) ∧ w' = w := by
  have hu := Try.underlying49
  have hm := run_eql_map_nil (P := Try.prog) w _ _ _ (some bm) Try.underlying47
  go_enter Try.func37, Try.ntmps37
  go_wp2
  go_ret
  exact ⟨rfl, rfl⟩
theorem PL.ne {w : World} {base P bm : Nat} {v : Value} {xs : List (Int × ByteArray)} (h : PL w base P v bm xs) : some P ≠ v.ownBlock := Kd.R_ne h.2.2.2.1 h.2.2.1 (by decide)
theorem PM.ne {w : World} {bm n k : Nat} {D : DataW Unit} {c : Array Value} {t : TypeId} {fr : Nat × Nat} (h : PM w bm n D) (hk : w.heap[k]? = some (.cells c t fr)) : bm ≠ k := by
  rintro rfl
  obtain ⟨es, cl, hb, _⟩ := h
  rw [hb] at hk
  cases hk
theorem PL.neV {w : World} {base P bm : Nat} {v : Value} {xs : List (Int × ByteArray)} (h : PL w base P v bm xs) : some bm ≠ v.ownBlock := by
  intro e
  obtain ⟨cs, hc⟩ := Kd.R_typed h.2.2.2.1 bm e.symm
  exact h.2.2.2.2.ne hc rfl
theorem PL.kept {w w' : World} {base P bm : Nat} {v : Value} {xs : List (Int × ByteArray)} {S : Nat → Prop} (h : PL w base P v bm xs) (hk : Kept w w' S) (hP : ¬ S P) (hb : ¬ S bm) (hv : ∀ k, v.ownBlock = some k → ¬ S k) : PL w' base P v bm xs := by
  obtain ⟨h1, h2, h3, h4, es, cl, h5, h6⟩ := h
  exact ⟨h1, h2, blk_kept h3 hk hP, Kd.R_mono (Kd.R_kept (Kd.R_tight rfl h4) hk (fun k hk => hv k hk.symm)) (fun _ _ => trivial), es, cl, blk_kept h5 hk hb, h6⟩
theorem PL.below {w w' : World} {base P bm : Nat} {v : Value} {xs : List (Int × ByteArray)} (h : PL w base P v bm xs) (hb : Below w.heap.size w w') : PL w' base P v bm xs :=
  h.kept (Kept.of_below hb (fun _ => False)) id id (fun _ _ => id)
set_option maxHeartbeats 4000000 in
set_option maxRecDepth 100000 in
theorem pl_new (w : World) : Calls Try.prog 11 #[] w fun e w' => ∃ P bm, e = .returned (.pointer (some ⟨P, 0, none⟩)) ∧ PL w' w.heap.size P (.slice none 0 0) bm [] ∧ Below w.heap.size w w' := by
  have hmm := @run_makeMap Try.prog
  go_enter Try.func11, Try.ntmps11
  go_wp2
  go_ret
  have e1 : (w.alloc (.map #[] 0)).heap.size = w.heap.size + 1 := World.size_alloc _ _
  refine ⟨w.heap.size + 1, w.heap.size, rfl, ⟨by omega, Nat.le_refl _, ?_, Kd.R_nil _ _ _ _ _, (World.ownsMap_made w Try.prog 9 _).alloc _⟩, ?_⟩
  · have q := heap_alloc_new (w.alloc (.map #[] 0)) (.cells #[.slice none 0 0, .map (some w.heap.size)] 49 (0, 0))
    rw [e1] at q
    exact q
  · exact ((Below.refl w.heap.size w).alloc (Nat.le_refl _) _).alloc ((Below.refl w.heap.size w).alloc (Nat.le_refl _) _).size _
section
variable {P : Program} {ops : Array Oper} {o : Oper} {a : Act} {Q : Exit → Act → World → Prop} {Kc : Act → World → Prop}
theorem step_mapUpdate {H : Type} {W : World} (hw : Region.wanted o (yielded ops a.tmps) = true) (hN : o.dst = none) (m x v : Operand) (t : TypeId) (hop : o.op = Op.mapUpdate t m x v)
    (k e : TypeId) (K : Keyed P k) (ht : P.underlying t = some (.map k e)) (R : Value → Option (DataW H × List MemPlace)) (b n : Nat) (D : DataW H)
    (hm : a.eval m = .map (some b)) (hown : W.ownsMap P k R b n D) (hn : n < maxLen) (key val : Value) (kl : Lit) (hx : a.eval x = key) (hv : a.eval v = val) (hkey : keyOf P k key = some kl)
    (d : DataW H) (ps : List MemPlace) (hval : R val = some (d, ps))
    (h : ∀ w', w'.ownsMap P k R b (n + 1) (D.put kl d) → W.grownBy w' (some b) → Kc a w') : if Region.wanted o (yielded ops a.tmps) = true then Oper.wp P o a W Kc Q else Kc (a.put none undef) W := by
  obtain ⟨w', hrun, r1, r2⟩ := hown.update K ht hn hkey hval
  refine skip_ hw hN (w1 := w') ?_ (h _ r1 r2)
  simp [execOp, hop, hm, hx, hv, hrun, Result.andThen]
end
theorem pl_str {w : World} {A : Option Addr} {n : Nat} {l : List Int} (c : Nat) (h : Kd.C (Kd.int .u8) w A n l) : ∀ w', Below w.heap.size w w' → (convert 25 9 (.slice A n c)).run Try.prog w' = .ok (.string (strOfNums l)) w' := by
  intro w' hb
  have hl := h.1
  subst hl
  exact Kd.C_string (P := Try.prog) (A := A) (c := c) Try.underlying25 Try.underlying5 Try.underlying9 (Kd.C_below h hb)
theorem pl_info : (Try.prog.info? 74).map (fun i => (i.zero, i.size, i.bytes)) = some (some (.agg #[.int .i64 0, .string ByteArray.empty]), 2, 24) := by kernel_rfl
theorem pl_lit (W : World) (e : TypeId) (f : Int) (s : ByteArray) : ITM.C (W.alloc (.cells #[.int .i64 f, .string s] e)) (some ⟨W.heap.size, 0, none⟩) 1 [(f, s)] := by
  refine ⟨rfl, by omega, fun _ => ⟨_, rfl, fun j p hj => ?_⟩⟩
  have hj0 : j = 0 := by
    have := (List.getElem?_eq_some_iff.1 hj).1
    simp at this; omega
  subst hj0
  obtain rfl : (f, s) = p := by simpa using hj
  refine ⟨[.int .i64 f, .string s], rfl, (show (Kd.pair (Kd.int .i64) Kd.string).K _ (f, s) [.int .i64 f, .string s] from ⟨[.int .i64 f], [.string s], rfl, rfl, rfl⟩), fun i u hu => ?_⟩
  have hi0 : i = 0 ∨ i = 1 := by
    have := (List.getElem?_eq_some_iff.1 hu).1
    simp at this; omega
  rcases hi0 with rfl | rfl
  · obtain rfl : Value.int .i64 f = u := by simpa using hu
    exact (blk_cell (blk_new W _) 0).trans rfl
  · obtain rfl : Value.string s = u := by simpa using hu
    exact (blk_cell (blk_new W _) 1).trans rfl
/-- the row has grown; the set lags -/
def PH (w w2 : World) (base P : Nat) (v v1 : Value) (bm : Nat) (xs : List (Int × ByteArray)) (x : Int × ByteArray) : Prop :=
  w2.heap[P]? = some (.cells #[v1, .map (some bm)] 49 (0, 0)) ∧ Kd.R ITM 74 w2 base (fun _ => True) v1 (xs ++ [x]) ∧ PM w2 bm xs.length (poolD xs) ∧ Kept w w2 (fun k => k = P ∨ k = bm ∨ some k = v.ownBlock) ∧ Below base w w2
theorem pl_half {w W w1 : World} {base P bm : Nat} {v v1 : Value} {xs : List (Int × ByteArray)} {x : Int × ByteArray} (h : PL w base P v bm xs) (hb : Below w.heap.size w W) (ho : Kd.R ITM 74 w1 base (fun _ => True) v1 (xs ++ [x])) (hg : W.grownBy w1 v.ownBlock) :
    PH w (w1.setCell ⟨P, 0, none⟩ v1) base P v v1 bm xs x := by
  have hP := h.2.2.1
  have hlt := blk_lt hP
  have q1 : w1.heap[P]? = some (.cells #[v, .map (some bm)] 49 (0, 0)) := blk_grown (blk_below hP hb) hg h.ne
  have q2 := blk_set q1 0 v1
  simp only [List.setIfInBounds_toArray, List.set_cons_zero] at q2
  have hbm : bm ≠ P := h.2.2.2.2.ne hP
  have hk : Kept w (w1.setCell ⟨P, 0, none⟩ v1) (fun k => k = P ∨ k = bm ∨ some k = v.ownBlock) :=
    (Kept.of_grown hg (Kept.of_below hb _) (fun k hk => .inl (.inr (.inr hk.symm)))).setCell (p := ⟨P, 0, none⟩) (.inl (.inl rfl)) _
  have hbase : base ≤ w.heap.size := Nat.le_trans h.1 (Nat.le_of_lt hlt)
  refine ⟨q2, Kd.R_set ho q1 (by decide) _ _, ?_, hk, ?_⟩
  · obtain ⟨es, cl, hes, hr⟩ := h.2.2.2.2
    exact ⟨es, cl, (Below.heap_setCell w1 ⟨P, 0, none⟩ v1 bm hbm).trans (blk_grown (blk_below hes hb) hg h.neV), hr⟩
  · refine ((b_cut hb hbase).grown hg (Nat.le_trans hbase hb.size) (fun k hk => Kd.R_base h.2.2.2.1 k hk)).setCell (p := ⟨P, 0, none⟩) h.1 _
theorem pl_full {w wc W w2 : World} {base P bm : Nat} {v v1 : Value} {xs : List (Int × ByteArray)} {x : Int × ByteArray} (h : PL w base P v bm xs) (q : PH w wc base P v v1 bm xs x) (hb : Below wc.heap.size wc W) (ho : PM w2 bm (xs.length + 1) ((poolD xs).put (keyL x.2) (.lit (.bool true)))) (hg : W.grownBy w2 (some bm)) :
    PL w2 base P v1 bm (xs ++ [x]) ∧ Kept w w2 (fun k => k = P ∨ k = bm ∨ some k = v.ownBlock) ∧ Below base w w2 := by
  obtain ⟨q1, q2, q3, q4, q5⟩ := q
  have hne : bm ≠ P := q3.ne q1
  have hR : Kd.R ITM 74 w2 base (fun _ => True) v1 (xs ++ [x]) := by
    refine Kd.R_mono (Kd.R_grown (Kd.R_tight rfl (Kd.R_below q2 hb)) hg (fun k hk e => ?_)) (fun _ _ => trivial)
    rw [hk] at e
    obtain ⟨cs, hc⟩ := Kd.R_typed q2 bm e
    exact q3.ne hc rfl
  have hbase : base ≤ w.heap.size := Nat.le_trans h.1 (Nat.le_of_lt (blk_lt h.2.2.1))
  refine ⟨⟨h.1, h.2.1, blk_grown (blk_below q1 hb) hg (fun e => hne (by injection e with e; exact e.symm)), hR, ?_⟩, Kept.of_grown hg (q4.below hb) (fun k hk => .inl (.inr (.inl (by injection hk with hk; exact hk.symm)))), ?_⟩
  · rw [poolD_snoc, List.length_append]
    exact ho
  · exact (below_then q5 (Nat.le_trans hbase q5.size) hb).grown hg (Nat.le_trans hbase (Nat.le_trans q5.size hb.size)) (fun k hk => by injection hk with hk; rw [← hk]; exact h.2.1)
set_option maxHeartbeats 4000000 in
set_option maxRecDepth 100000 in
theorem pl_add (P base bm : Nat) (v : Value) (xs : List (Int × ByteArray)) (w : World) (h : PL w base P v bm xs) (f : Int) (h0 : 0 ≤ f) (h8 : f < 8) (A : Option Addr) (m c : Nat) (l : List Int) (hA : ∀ W', Kept w W' (fun k => k = P ∨ k = bm ∨ some k = v.ownBlock) → Kd.C (Kd.int .u8) W' A m l) (hm : m ≤ 96) (hx : xs.length < 4096) :
    Calls Try.prog 12 #[.pointer (some ⟨P, 0, none⟩), .int .i64 f, .slice A m c] w fun e w' => ∃ v', e = .returned (.tuple #[.int .i64 (xs.length : Int), .int .i64 0]) ∧ PL w' base P v' bm (xs ++ [(f, strOfNums l)]) ∧ Kept w w' (fun k => k = P ∨ k = bm ∨ some k = v.ownBlock) ∧ Below base w w' := by
  have hC := hA w (Kept.refl _ _)
  have hu := Try.underlying49
  obtain ⟨A0, c0, rfl, hlc, _⟩ := Kd.R_reads h.2.2.2.1
  have g0 := (blk_cell h.2.2.1 0).trans rfl
  have g1 := (blk_cell h.2.2.1 1).trans rfl
  have H := Aside0.mk h
  obtain ⟨n, hn⟩ : ∃ n, xs.length = n := ⟨_, rfl⟩
  have HL := Aside0.mk (show l.length ≤ 96 by rw [hC.1]; exact hm)
  have HT : Aside0 (∀ W', Kept w W' (fun k => k = P ∨ k = bm ∨ some k = (Value.slice A0 xs.length c0).ownBlock) → (convert 25 9 (.slice A m c)).run Try.prog W' = .ok (.string (strOfNums l)) W') := ⟨fun W' hk => pl_str c (hA W' hk) _ (Below.refl _ _)⟩
  have HS : Aside0 (∀ W, Below w.heap.size w W → (convert 25 9 (.slice A m c)).run Try.prog W = .ok (.string (strOfNums l)) W) := ⟨pl_str c hC⟩
  obtain ⟨s, hs⟩ : ∃ s, strOfNums l = s := ⟨_, rfl⟩
  have HSZ : Aside0 (s.size ≤ 96) := ⟨by rw [← hs, strOfNums_size]; exact HL.out⟩
  rw [hs] at HS HT ⊢
  have hs1 := HS.out _ (Below.refl _ _)
  have HR : Aside0 (∀ W, Below w.heap.size w W → Kd.R ITM 74 W base (fun _ => True) (.slice A0 xs.length c0) xs) := ⟨fun W hb => Kd.R_below h.2.2.2.1 hb⟩
  have HBS := Aside0.mk (Nat.le_trans h.1 (Nat.le_of_lt (blk_lt h.2.2.1)))
  rw [hn] at g0 g1 hx HR H HT ⊢
  have HN := Aside0.mk hn
  have HX := Aside0.mk hx
  have i1 : ¬ f < 0 := by omega
  have i2 : ¬ (8 : Int) ≤ f := by omega
  have i3 : ¬ (96 : Int) < (m : Int) := by omega
  have i4 : ¬ (4096 : Int) ≤ (n : Int) := by omega
  clear h hA hC hx hlc h0 h8 hm hn hs
  go_enter Try.func12, Try.ntmps12
  go_upto_region 9 with (go_at_call 37; (with_reducible refine (pl_none P bm _ g1).mono ?_); rintro e w ⟨rfl, rfl⟩)
  have HBW := Aside0.mk (Below.refl w.heap.size w)
  have HLL : Aside0 ((xs ++ [(f, s)]).length = n + 1) := ⟨by rw [List.length_append, HN.out]; rfl⟩
  have g0d : w.drew.cell? ⟨P, 0, none⟩ = some (.slice A0 n c0) := g0
  have g0a : ∀ o : Obj, (w.alloc o).drew.cell? ⟨P, 0, none⟩ = some (.slice A0 n c0) := fun o => fl_low g0d (below_alloc (Below.refl _ _) o)
  go_cut [36] (fun s36 wx => Aside0 (PH w wx base P (.slice A0 n c0) s36 bm xs (f, s)))
  case first =>
    refine start_ (n := 14) (S := fun w' => True) (ds := []) #[false, false, false, false, false, false, false, false, false, false, false, false, false, false] (by kernel_rfl) rfl rfl trivial (fun hHeld => ?_); refine with_tabW pa.tab9 pa.bits9 (fun HT_ HW_ => ?_)
    refine take_ (i := 0) (N := (some 26)) (v := ?_) (a' := ?_) #[true, false, false, false, false, false, false, false, false, false, false, false, false, false] rfl rfl (take_ofW HT_.out HW_.out (by kernel_rfl)) (fun _ _ _ h => h) (Or.inl ⟨by rfl, ?_⟩) hHeld ?_ ?_
    rotate_left
    · rintro w' _
      go_simp
      with_reducible rfl
    rotate_left
    · simp only [Act.put, List.setIfInBounds_toArray, List.set_cons_zero, List.set_cons_succ, i64_w, i32_w]
      rfl
    refine take_ (i := 1) (N := (some 27)) (v := ?_) (a' := ?_) #[true, true, false, false, false, false, false, false, false, false, false, false, false, false] rfl rfl (take_ofW HT_.out HW_.out (by kernel_rfl)) (fun _ _ _ h => h) (Or.inl ⟨by rfl, ?_⟩) hHeld ?_ ?_
    rotate_left
    · rintro w' _
      go_simp
      with_reducible rfl
    rotate_left
    · simp only [Act.put, List.setIfInBounds_toArray, List.set_cons_zero, List.set_cons_succ, i64_w, i32_w]
      rfl
    refine take_ (i := 2) (N := (some 28)) (v := ?_) (a' := ?_) #[true, true, true, false, false, false, false, false, false, false, false, false, false, false] rfl rfl (take_ofW HT_.out HW_.out (by kernel_rfl)) (fun _ _ _ h => h) (Or.inl ⟨by rfl, ?_⟩) hHeld ?_ ?_
    rotate_left
    · rintro w' _
      go_simp
      with_reducible rfl
    rotate_left
    · simp only [Act.put, List.setIfInBounds_toArray, List.set_cons_zero, List.set_cons_succ, i64_w, i32_w]
      rfl
    refine take_ (i := 3) (N := (some 29)) (v := ?_) (a' := ?_) #[true, true, true, true, false, false, false, false, false, false, false, false, false, false] rfl rfl (take_ofW HT_.out HW_.out (by kernel_rfl)) (fun _ _ _ h => h) (Or.inl ⟨by rfl, ?_⟩) hHeld ?_ ?_
    rotate_left
    · rintro w' _
      go_simp
      with_reducible rfl
    rotate_left
    · simp only [Act.put, List.setIfInBounds_toArray, List.set_cons_zero, List.set_cons_succ, i64_w, i32_w]
      rfl
    refine take_ (i := 5) (N := (some 31)) (v := ?_) (a' := ?_) #[true, true, true, true, false, true, false, false, false, false, false, false, false, false] rfl rfl (take_ofW HT_.out HW_.out (by kernel_rfl)) (fun _ _ _ h => h) (Or.inl ⟨by rfl, ?_⟩) hHeld ?_ ?_
    rotate_left
    · rintro w' _
      go_simp
      with_reducible rfl
    rotate_left
    · simp only [Act.put, List.setIfInBounds_toArray, List.set_cons_zero, List.set_cons_succ, i64_w, i32_w]
      rfl
    refine take_ (i := 6) (N := (some 32)) (v := ?_) (a' := ?_) #[true, true, true, true, false, true, true, false, false, false, false, false, false, false] rfl rfl (take_ofW HT_.out HW_.out (by kernel_rfl)) (fun _ _ _ h => h) (Or.inl ⟨by rfl, ?_⟩) hHeld ?_ ?_
    rotate_left
    · rintro w' _
      go_simp
      with_reducible rfl
    rotate_left
    · simp only [Act.put, List.setIfInBounds_toArray, List.set_cons_zero, List.set_cons_succ, i64_w, i32_w]
      rfl
    refine two_ (i := 4) (j := 7) (Ni := (some 30)) (Nj := (some 33)) #[true, true, true, true, true, true, true, false, false, false, false, false, false, false] #[true, true, true, true, false, true, true, true, false, false, false, false, false, false] rfl rfl rfl rfl (two_of HT_.out (by kernel_rfl)) (by decide) (by decide) (fun K hK => ?_)  (fun K hK => ?_)
    · skip
      refine value_ (by rfl) rfl (v := ?_) (w1 := ?_) ?_ ?_
      rotate_left 2
      · (go_simp; first | (with_reducible rfl) | (constructor <;> with_reducible rfl))
      refine hK.out _ _ trivial (fun hHeld => ?_)
      clear hK K
      refine norm_ (a' := ?_) ?_ ?_
      rotate_left
      · show Act.put _ (some 30) _ = _
        simp only [Act.put, List.setIfInBounds_toArray, List.set_cons_zero, List.set_cons_succ, i64_w, i32_w]
        rfl
      refine one_ (i := 7) (N := (some 33)) #[true, true, true, true, true, true, true, true, false, false, false, false, false, false] rfl rfl (one_of HT_.out (by kernel_rfl)) (by decide) (fun K hK => ?_)
      refine value_ (by rfl) rfl (v := ?_) (w1 := ?_) ?_ ?_
      rotate_left 2
      · (go_simp; rw [HS.out _ (by repeat (first | exact HBW.out | apply below_drew | apply below_alloc | apply pw_below_drewN))]; exact rfl)
      refine hK.out _ _ trivial (fun hHeld => ?_)
      clear hK K
      refine norm_ (a' := ?_) ?_ ?_
      rotate_left
      · show Act.put _ (some 33) _ = _
        simp only [Act.put, List.setIfInBounds_toArray, List.set_cons_zero, List.set_cons_succ, i64_w, i32_w]
        rfl
      refine take_ (i := 8) (N := (some 34)) (v := ?_) (a' := ?_) #[true, true, true, true, true, true, true, true, true, false, false, false, false, false] rfl rfl (take_ofW HT_.out HW_.out (by kernel_rfl)) (fun _ _ _ h => h) (Or.inl ⟨by rfl, ?_⟩) hHeld ?_ ?_
      rotate_left
      · rintro w' _
        go_simp
        with_reducible rfl
      rotate_left
      · simp only [Act.put, List.setIfInBounds_toArray, List.set_cons_zero, List.set_cons_succ, i64_w, i32_w]
        rfl
      refine one_ (i := 9) (N := (some 35)) #[true, true, true, true, true, true, true, true, true, true, false, false, false, false] rfl rfl (one_of HT_.out (by kernel_rfl)) (by decide) (fun K hK => ?_)
      refine value_ (by rfl) rfl (v := ?_) (w1 := ?_) ?_ ?_
      rotate_left 2
      · (go_simp; first | (with_reducible rfl) | (constructor <;> with_reducible rfl))
      refine hK.out _ _ trivial (fun hHeld => ?_)
      clear hK K
      refine norm_ (a' := ?_) ?_ ?_
      rotate_left
      · show Act.put _ (some 35) _ = _
        simp only [Act.put, List.setIfInBounds_toArray, List.set_cons_zero, List.set_cons_succ, i64_w, i32_w]
        rfl
      refine one_ (i := 10) (N := (some 36)) #[true, true, true, true, true, true, true, true, true, true, true, false, false, false] rfl rfl (one_of HT_.out (by kernel_rfl)) (by decide) (fun K hK => ?_)
      refine Kd.R_append_rows_step ITM (w0 := w) base (by rfl) (.tmp 30) (.tmp 35) 46 74 (.agg #[.int .i64 0, .string ByteArray.empty]) 24 rfl Try.underlying46 pl_info rfl (by decide) (by decide) (.slice A0 n c0) xs [(f, s)] (some ⟨w.heap.size, 0, none⟩) 1 1 (fun _ => True) (fun _ => False) rfl rfl (HR.out _ (by repeat (first | exact HBW.out | apply below_drew | apply below_alloc | apply pw_below_drewN))) (pl_lit w 74 f s) (fun _ _ h => h) (fun _ h => h.elim) (fun _ _ => trivial) (b_cut (by repeat (first | exact HBW.out | apply below_drew | apply below_alloc | apply pw_below_drewN)) HBS.out) (Nat.le_trans HBS.out (Below.size (by repeat (first | exact HBW.out | apply below_drew | apply below_alloc | apply pw_below_drewN)))) (by have := HN.out; have := HX.out; simp; omega) ?_
      intro v1 w1 ho1 hb1 hg1 hn1
      obtain ⟨A6, c6, rfl⟩ := Kd.R_slice ho1
      rw [HLL.out] at ho1
      rw [HLL.out]
      have hh := pl_half H.out (by repeat (first | exact HBW.out | apply below_drew | apply below_alloc | apply pw_below_drewN)) ho1 hg1
      have q1 := blk_grown (blk_below H.out.2.2.1 (by repeat (first | exact HBW.out | apply below_drew | apply below_alloc | apply pw_below_drewN))) hg1 H.out.ne
      have r0 := (blk_cell q1 0).trans rfl
      have r1 := blk_frozen q1 0
      refine hK.out _ _ trivial (fun hHeld => ?_)
      clear hK K
      refine norm_ (a' := ?_) ?_ ?_
      rotate_left
      · show Act.put _ (some 36) _ = _
        simp only [Act.put, List.setIfInBounds_toArray, List.set_cons_zero, List.set_cons_succ, i64_w, i32_w]
        rfl
      refine take_ (i := 11) (N := (some 37)) (v := ?_) (a' := ?_) #[true, true, true, true, true, true, true, true, true, true, true, true, false, false] rfl rfl (take_ofW HT_.out HW_.out (by kernel_rfl)) (fun _ _ _ h => h) (Or.inl ⟨by rfl, ?_⟩) hHeld ?_ ?_
      rotate_left
      · rintro w' _
        go_simp
        with_reducible rfl
      rotate_left
      · simp only [Act.put, List.setIfInBounds_toArray, List.set_cons_zero, List.set_cons_succ, i64_w, i32_w]
        rfl
      refine take_ (i := 12) (N := (some 38)) (v := ?_) (a' := ?_) #[true, true, true, true, true, true, true, true, true, true, true, true, true, false] rfl rfl (take_ofW HT_.out HW_.out (by kernel_rfl)) (fun _ _ _ h => h) (Or.inl ⟨by rfl, ?_⟩) hHeld ?_ ?_
      rotate_left
      · rintro w' _
        go_simp
        with_reducible rfl
      rotate_left
      · simp only [Act.put, List.setIfInBounds_toArray, List.set_cons_zero, List.set_cons_succ, i64_w, i32_w]
        rfl
      refine one_ (i := 13) (N := none) #[true, true, true, true, true, true, true, true, true, true, true, true, true, true] rfl rfl (one_of HT_.out (by kernel_rfl)) (by decide) (fun K hK => ?_)
      refine skip_ (by rfl) rfl (w1 := ?_) ?_ ?_
      rotate_left 1
      · (go_simp; first | (with_reducible rfl) | trace_state)
      refine hK.out _ _ trivial (fun hHeld => ?_)
      clear hK K
      refine done_ (done_of HT_.out (by kernel_rfl)) ?_
      go_wp2
      go_meet
      exact ⟨hh⟩
    · skip
      refine value_ (by rfl) rfl (v := ?_) (w1 := ?_) ?_ ?_
      rotate_left 2
      · (go_simp; rw [HS.out _ (by repeat (first | exact HBW.out | apply below_drew | apply below_alloc | apply pw_below_drewN))]; exact rfl)
      refine hK.out _ _ trivial (fun hHeld => ?_)
      clear hK K
      refine norm_ (a' := ?_) ?_ ?_
      rotate_left
      · show Act.put _ (some 33) _ = _
        simp only [Act.put, List.setIfInBounds_toArray, List.set_cons_zero, List.set_cons_succ, i64_w, i32_w]
        rfl
      refine take_ (i := 8) (N := (some 34)) (v := ?_) (a' := ?_) #[true, true, true, true, false, true, true, true, true, false, false, false, false, false] rfl rfl (take_ofW HT_.out HW_.out (by kernel_rfl)) (fun _ _ _ h => h) (Or.inl ⟨by rfl, ?_⟩) hHeld ?_ ?_
      rotate_left
      · rintro w' _
        go_simp
        with_reducible rfl
      rotate_left
      · simp only [Act.put, List.setIfInBounds_toArray, List.set_cons_zero, List.set_cons_succ, i64_w, i32_w]
        rfl
      refine two_ (i := 4) (j := 9) (Ni := (some 30)) (Nj := (some 35)) #[true, true, true, true, true, true, true, true, true, false, false, false, false, false] #[true, true, true, true, false, true, true, true, true, true, false, false, false, false] rfl rfl rfl rfl (two_of HT_.out (by kernel_rfl)) (by decide) (by decide) (fun K hK => ?_)  (fun K hK => ?_)
      · skip
        refine value_ (by rfl) rfl (v := ?_) (w1 := ?_) ?_ ?_
        rotate_left 2
        · (go_simp; first | (with_reducible rfl) | (constructor <;> with_reducible rfl))
        refine hK.out _ _ trivial (fun hHeld => ?_)
        clear hK K
        refine norm_ (a' := ?_) ?_ ?_
        rotate_left
        · show Act.put _ (some 30) _ = _
          simp only [Act.put, List.setIfInBounds_toArray, List.set_cons_zero, List.set_cons_succ, i64_w, i32_w]
          rfl
        refine one_ (i := 9) (N := (some 35)) #[true, true, true, true, true, true, true, true, true, true, false, false, false, false] rfl rfl (one_of HT_.out (by kernel_rfl)) (by decide) (fun K hK => ?_)
        refine value_ (by rfl) rfl (v := ?_) (w1 := ?_) ?_ ?_
        rotate_left 2
        · (go_simp; first | (with_reducible rfl) | (constructor <;> with_reducible rfl))
        refine hK.out _ _ trivial (fun hHeld => ?_)
        clear hK K
        refine norm_ (a' := ?_) ?_ ?_
        rotate_left
        · show Act.put _ (some 35) _ = _
          simp only [Act.put, List.setIfInBounds_toArray, List.set_cons_zero, List.set_cons_succ, i64_w, i32_w]
          rfl
        refine one_ (i := 10) (N := (some 36)) #[true, true, true, true, true, true, true, true, true, true, true, false, false, false] rfl rfl (one_of HT_.out (by kernel_rfl)) (by decide) (fun K hK => ?_)
        refine Kd.R_append_rows_step ITM (w0 := w) base (by rfl) (.tmp 30) (.tmp 35) 46 74 (.agg #[.int .i64 0, .string ByteArray.empty]) 24 rfl Try.underlying46 pl_info rfl (by decide) (by decide) (.slice A0 n c0) xs [(f, s)] (some ⟨w.heap.size, 0, none⟩) 1 1 (fun _ => True) (fun _ => False) rfl rfl (HR.out _ (by repeat (first | exact HBW.out | apply below_drew | apply below_alloc | apply pw_below_drewN))) (pl_lit w 74 f s) (fun _ _ h => h) (fun _ h => h.elim) (fun _ _ => trivial) (b_cut (by repeat (first | exact HBW.out | apply below_drew | apply below_alloc | apply pw_below_drewN)) HBS.out) (Nat.le_trans HBS.out (Below.size (by repeat (first | exact HBW.out | apply below_drew | apply below_alloc | apply pw_below_drewN)))) (by have := HN.out; have := HX.out; simp; omega) ?_
        intro v1 w1 ho1 hb1 hg1 hn1
        obtain ⟨A6, c6, rfl⟩ := Kd.R_slice ho1
        rw [HLL.out] at ho1
        rw [HLL.out]
        have hh := pl_half H.out (by repeat (first | exact HBW.out | apply below_drew | apply below_alloc | apply pw_below_drewN)) ho1 hg1
        have q1 := blk_grown (blk_below H.out.2.2.1 (by repeat (first | exact HBW.out | apply below_drew | apply below_alloc | apply pw_below_drewN))) hg1 H.out.ne
        have r0 := (blk_cell q1 0).trans rfl
        have r1 := blk_frozen q1 0
        refine hK.out _ _ trivial (fun hHeld => ?_)
        clear hK K
        refine norm_ (a' := ?_) ?_ ?_
        rotate_left
        · show Act.put _ (some 36) _ = _
          simp only [Act.put, List.setIfInBounds_toArray, List.set_cons_zero, List.set_cons_succ, i64_w, i32_w]
          rfl
        refine take_ (i := 11) (N := (some 37)) (v := ?_) (a' := ?_) #[true, true, true, true, true, true, true, true, true, true, true, true, false, false] rfl rfl (take_ofW HT_.out HW_.out (by kernel_rfl)) (fun _ _ _ h => h) (Or.inl ⟨by rfl, ?_⟩) hHeld ?_ ?_
        rotate_left
        · rintro w' _
          go_simp
          with_reducible rfl
        rotate_left
        · simp only [Act.put, List.setIfInBounds_toArray, List.set_cons_zero, List.set_cons_succ, i64_w, i32_w]
          rfl
        refine take_ (i := 12) (N := (some 38)) (v := ?_) (a' := ?_) #[true, true, true, true, true, true, true, true, true, true, true, true, true, false] rfl rfl (take_ofW HT_.out HW_.out (by kernel_rfl)) (fun _ _ _ h => h) (Or.inl ⟨by rfl, ?_⟩) hHeld ?_ ?_
        rotate_left
        · rintro w' _
          go_simp
          with_reducible rfl
        rotate_left
        · simp only [Act.put, List.setIfInBounds_toArray, List.set_cons_zero, List.set_cons_succ, i64_w, i32_w]
          rfl
        refine one_ (i := 13) (N := none) #[true, true, true, true, true, true, true, true, true, true, true, true, true, true] rfl rfl (one_of HT_.out (by kernel_rfl)) (by decide) (fun K hK => ?_)
        refine skip_ (by rfl) rfl (w1 := ?_) ?_ ?_
        rotate_left 1
        · (go_simp; first | (with_reducible rfl) | trace_state)
        refine hK.out _ _ trivial (fun hHeld => ?_)
        clear hK K
        refine done_ (done_of HT_.out (by kernel_rfl)) ?_
        go_wp2
        go_meet
        exact ⟨hh⟩
      · skip
        refine value_ (by rfl) rfl (v := ?_) (w1 := ?_) ?_ ?_
        rotate_left 2
        · (go_simp; first | (with_reducible rfl) | (constructor <;> with_reducible rfl))
        refine hK.out _ _ trivial (fun hHeld => ?_)
        clear hK K
        refine norm_ (a' := ?_) ?_ ?_
        rotate_left
        · show Act.put _ (some 35) _ = _
          simp only [Act.put, List.setIfInBounds_toArray, List.set_cons_zero, List.set_cons_succ, i64_w, i32_w]
          rfl
        refine one_ (i := 4) (N := (some 30)) #[true, true, true, true, true, true, true, true, true, true, false, false, false, false] rfl rfl (one_of HT_.out (by kernel_rfl)) (by decide) (fun K hK => ?_)
        refine value_ (by rfl) rfl (v := ?_) (w1 := ?_) ?_ ?_
        rotate_left 2
        · (go_simp; first | (with_reducible rfl) | (constructor <;> with_reducible rfl))
        refine hK.out _ _ trivial (fun hHeld => ?_)
        clear hK K
        refine norm_ (a' := ?_) ?_ ?_
        rotate_left
        · show Act.put _ (some 30) _ = _
          simp only [Act.put, List.setIfInBounds_toArray, List.set_cons_zero, List.set_cons_succ, i64_w, i32_w]
          rfl
        refine one_ (i := 10) (N := (some 36)) #[true, true, true, true, true, true, true, true, true, true, true, false, false, false] rfl rfl (one_of HT_.out (by kernel_rfl)) (by decide) (fun K hK => ?_)
        refine Kd.R_append_rows_step ITM (w0 := w) base (by rfl) (.tmp 30) (.tmp 35) 46 74 (.agg #[.int .i64 0, .string ByteArray.empty]) 24 rfl Try.underlying46 pl_info rfl (by decide) (by decide) (.slice A0 n c0) xs [(f, s)] (some ⟨w.heap.size, 0, none⟩) 1 1 (fun _ => True) (fun _ => False) rfl rfl (HR.out _ (by repeat (first | exact HBW.out | apply below_drew | apply below_alloc | apply pw_below_drewN))) (pl_lit w 74 f s) (fun _ _ h => h) (fun _ h => h.elim) (fun _ _ => trivial) (b_cut (by repeat (first | exact HBW.out | apply below_drew | apply below_alloc | apply pw_below_drewN)) HBS.out) (Nat.le_trans HBS.out (Below.size (by repeat (first | exact HBW.out | apply below_drew | apply below_alloc | apply pw_below_drewN)))) (by have := HN.out; have := HX.out; simp; omega) ?_
        intro v1 w1 ho1 hb1 hg1 hn1
        obtain ⟨A6, c6, rfl⟩ := Kd.R_slice ho1
        rw [HLL.out] at ho1
        rw [HLL.out]
        have hh := pl_half H.out (by repeat (first | exact HBW.out | apply below_drew | apply below_alloc | apply pw_below_drewN)) ho1 hg1
        have q1 := blk_grown (blk_below H.out.2.2.1 (by repeat (first | exact HBW.out | apply below_drew | apply below_alloc | apply pw_below_drewN))) hg1 H.out.ne
        have r0 := (blk_cell q1 0).trans rfl
        have r1 := blk_frozen q1 0
        refine hK.out _ _ trivial (fun hHeld => ?_)
        clear hK K
        refine norm_ (a' := ?_) ?_ ?_
        rotate_left
        · show Act.put _ (some 36) _ = _
          simp only [Act.put, List.setIfInBounds_toArray, List.set_cons_zero, List.set_cons_succ, i64_w, i32_w]
          rfl
        refine take_ (i := 11) (N := (some 37)) (v := ?_) (a' := ?_) #[true, true, true, true, true, true, true, true, true, true, true, true, false, false] rfl rfl (take_ofW HT_.out HW_.out (by kernel_rfl)) (fun _ _ _ h => h) (Or.inl ⟨by rfl, ?_⟩) hHeld ?_ ?_
        rotate_left
        · rintro w' _
          go_simp
          with_reducible rfl
        rotate_left
        · simp only [Act.put, List.setIfInBounds_toArray, List.set_cons_zero, List.set_cons_succ, i64_w, i32_w]
          rfl
        refine take_ (i := 12) (N := (some 38)) (v := ?_) (a' := ?_) #[true, true, true, true, true, true, true, true, true, true, true, true, true, false] rfl rfl (take_ofW HT_.out HW_.out (by kernel_rfl)) (fun _ _ _ h => h) (Or.inl ⟨by rfl, ?_⟩) hHeld ?_ ?_
        rotate_left
        · rintro w' _
          go_simp
          with_reducible rfl
        rotate_left
        · simp only [Act.put, List.setIfInBounds_toArray, List.set_cons_zero, List.set_cons_succ, i64_w, i32_w]
          rfl
        refine one_ (i := 13) (N := none) #[true, true, true, true, true, true, true, true, true, true, true, true, true, true] rfl rfl (one_of HT_.out (by kernel_rfl)) (by decide) (fun K hK => ?_)
        refine skip_ (by rfl) rfl (w1 := ?_) ?_ ?_
        rotate_left 1
        · (go_simp; first | (with_reducible rfl) | trace_state)
        refine hK.out _ _ trivial (fun hHeld => ?_)
        clear hK K
        refine done_ (done_of HT_.out (by kernel_rfl)) ?_
        go_wp2
        go_meet
        exact ⟨hh⟩
  case rest =>
    obtain ⟨HPP, HRR, HMM, HKK, HBB⟩ := hcut.out
    obtain ⟨A1, c1, rfl, _, _⟩ := Kd.R_reads HRR
    rw [HLL.out] at HPP HRR
    have r0 := (blk_cell HPP 0).trans rfl
    have r1 := (blk_cell HPP 1).trans rfl
    have hsz : s.size ≤ maxLen := by have := HSZ.out; unfold maxLen; omega
    have hne : bm ≠ P := HMM.ne HPP
    have GP := Aside0.mk HPP
    have GR := Aside0.mk HRR
    have GM := Aside0.mk HMM
    have GK := Aside0.mk HKK
    have GB := Aside0.mk HBB
    have GN := Aside0.mk hne
    have GS := Aside0.mk hsz
    have hsw := HT.out _ GK.out
    clear HPP HRR HMM HKK HBB hne hsz g0 g1 g0d g0a hs1
    go_wp2_with (at_mapUpdate; refine wpList_mapUpdate_own _ rfl _ _ _ 47 rfl 9 4 (string_keyed Try.underlying9) Try.underlying47 _ bm xs.length (poolD xs) rfl GM.out (by have := HN.out; have := HX.out; unfold maxLen; omega) _ _ (keyL s) rfl rfl (keyOf_string_mk Try.underlying9 GS.out) (.lit (.bool true)) [] (plainElem_bool Try.underlying4 true) ?_; intro w1 hown1 hgrow1)
    have CS : Aside0 (∀ W, Below wc.heap.size wc W → W.cell? ⟨P, 1, none⟩ = some (.map (some bm))) := ⟨fun W hb => fl_low (r1.trans rfl) hb⟩
    have CV : Aside0 (∀ W, Below wc.heap.size wc W → (convert 25 9 (.slice A m c)).run Try.prog W = .ok (.string s) W) := ⟨fun W hb => HT.out _ (GK.out.below hb)⟩
    have CM : Aside0 (∀ W, Below wc.heap.size wc W → PM W bm xs.length (poolD xs)) := ⟨fun W hb => World.ownsMap.kept GM.out (grown_of_below hb none) (by simp)⟩
    clear HBW r0 r1 hsw
    have r1 := CS.out _ (Below.refl _ _)
    have r1d : wc.drew.cell? ⟨P, 1, none⟩ = some (.map (some bm)) := r1
    have HBW := Aside0.mk (Below.refl wc.heap.size wc)
    refine start_ (n := 7) (S := fun w' => True) (ds := []) #[false, false, false, false, false, false, false] (by kernel_rfl) rfl rfl trivial (fun hHeld => ?_)
    refine take_ (i := 0) (N := (some 39)) (v := ?_) (a' := ?_) #[true, false, false, false, false, false, false] rfl rfl (by kernel_rfl) (fun _ _ _ h => h) (Or.inl ⟨by rfl, ?_⟩) hHeld ?_ ?_
    rotate_left
    · rintro w' _
      go_simp
      with_reducible rfl
    rotate_left
    · simp only [Act.put, List.setIfInBounds_toArray, List.set_cons_zero, List.set_cons_succ, i64_w, i32_w]
      rfl
    refine take_ (i := 1) (N := (some 40)) (v := ?_) (a' := ?_) #[true, true, false, false, false, false, false] rfl rfl (by kernel_rfl) (fun _ _ _ h => h) (Or.inl ⟨by rfl, ?_⟩) hHeld ?_ ?_
    rotate_left
    · rintro w' _
      go_simp
      with_reducible rfl
    rotate_left
    · simp only [Act.put, List.setIfInBounds_toArray, List.set_cons_zero, List.set_cons_succ, i64_w, i32_w]
      rfl
    refine take_ (i := 2) (N := (some 41)) (v := ?_) (a' := ?_) #[true, true, true, false, false, false, false] rfl rfl (by kernel_rfl) (fun _ _ _ h => h) (Or.inl ⟨by rfl, ?_⟩) hHeld ?_ ?_
    rotate_left
    · rintro w' _
      go_simp
      with_reducible rfl
    rotate_left
    · simp only [Act.put, List.setIfInBounds_toArray, List.set_cons_zero, List.set_cons_succ, i64_w, i32_w]
      rfl
    refine take_ (i := 4) (N := (some 43)) (v := ?_) (a' := ?_) #[true, true, true, false, true, false, false] rfl rfl (by kernel_rfl) (fun _ _ _ h => h) (Or.inl ⟨by rfl, ?_⟩) hHeld ?_ ?_
    rotate_left
    · rintro w' _
      go_simp
      with_reducible rfl
    rotate_left
    · simp only [Act.put, List.setIfInBounds_toArray, List.set_cons_zero, List.set_cons_succ, i64_w, i32_w]
      rfl
    refine two_ (i := 3) (j := 5) (Ni := (some 42)) (Nj := (some 44)) #[true, true, true, true, true, false, false] #[true, true, true, false, true, true, false] rfl rfl rfl rfl (by kernel_rfl) (by decide) (by decide) (fun K hK => ?_)  (fun K hK => ?_)
    · skip
      refine value_ (by rfl) rfl (v := ?_) (w1 := ?_) ?_ ?_
      rotate_left 2
      · (go_simp; first | (with_reducible rfl) | (constructor <;> with_reducible rfl))
      refine hK.out _ _ trivial (fun hHeld => ?_)
      clear hK K
      refine norm_ (a' := ?_) ?_ ?_
      rotate_left
      · show Act.put _ (some 42) _ = _
        simp only [Act.put, List.setIfInBounds_toArray, List.set_cons_zero, List.set_cons_succ, i64_w, i32_w]
        rfl
      refine one_ (i := 5) (N := (some 44)) #[true, true, true, true, true, true, false] rfl rfl (by kernel_rfl) (by decide) (fun K hK => ?_)
      refine value_ (by rfl) rfl (v := ?_) (w1 := ?_) ?_ ?_
      rotate_left 2
      · (go_simp; rw [CV.out _ (by repeat (first | exact HBW.out | apply below_drew | apply below_alloc | apply pw_below_drewN))]; exact rfl)
      refine hK.out _ _ trivial (fun hHeld => ?_)
      clear hK K
      refine norm_ (a' := ?_) ?_ ?_
      rotate_left
      · show Act.put _ (some 44) _ = _
        simp only [Act.put, List.setIfInBounds_toArray, List.set_cons_zero, List.set_cons_succ, i64_w, i32_w]
        rfl
      refine one_ (i := 6) (N := none) #[true, true, true, true, true, true, true] rfl rfl (by kernel_rfl) (by decide) (fun K hK => ?_)
      refine step_mapUpdate (by rfl) rfl _ _ _ 47 rfl 9 4 (string_keyed Try.underlying9) Try.underlying47 _ bm xs.length (poolD xs) rfl (CM.out _ (by repeat (first | exact HBW.out | apply below_drew | apply below_alloc | apply pw_below_drewN))) (by have := HN.out; have := HX.out; unfold maxLen; omega) _ _ (keyL s) rfl rfl (keyOf_string_mk Try.underlying9 GS.out) (.lit (.bool true)) [] (plainElem_bool Try.underlying4 true) (fun w_ hown1 hgrow1 => ?_)
      refine hK.out _ _ trivial (fun hHeld => ?_)
      clear hK K
      refine done_ (by kernel_rfl) ?_
      obtain ⟨g1_, g2_, g3_⟩ := pl_full H.out hcut.out (by repeat (first | exact HBW.out | apply below_drew | apply below_alloc | apply pw_below_drewN)) hown1 hgrow1
      have q2 := g1_.2.2.1
      rw [HLL.out] at q2
      have s0 := (blk_cell q2 0).trans rfl
      have G1 := Aside0.mk g1_
      have G2 := Aside0.mk g2_
      have G3 := Aside0.mk g3_
      clear q2 g1_ g2_ g3_ hown1 hgrow1 r1 r1d
      go_wp2
      go_ret2
      exact ⟨_, rfl, G1.out, G2.out, G3.out⟩
    · skip
      refine value_ (by rfl) rfl (v := ?_) (w1 := ?_) ?_ ?_
      rotate_left 2
      · (go_simp; rw [CV.out _ (by repeat (first | exact HBW.out | apply below_drew | apply below_alloc | apply pw_below_drewN))]; exact rfl)
      refine hK.out _ _ trivial (fun hHeld => ?_)
      clear hK K
      refine norm_ (a' := ?_) ?_ ?_
      rotate_left
      · show Act.put _ (some 44) _ = _
        simp only [Act.put, List.setIfInBounds_toArray, List.set_cons_zero, List.set_cons_succ, i64_w, i32_w]
        rfl
      refine one_ (i := 3) (N := (some 42)) #[true, true, true, true, true, true, false] rfl rfl (by kernel_rfl) (by decide) (fun K hK => ?_)
      refine value_ (by rfl) rfl (v := ?_) (w1 := ?_) ?_ ?_
      rotate_left 2
      · (go_simp; first | (with_reducible rfl) | (constructor <;> with_reducible rfl))
      refine hK.out _ _ trivial (fun hHeld => ?_)
      clear hK K
      refine norm_ (a' := ?_) ?_ ?_
      rotate_left
      · show Act.put _ (some 42) _ = _
        simp only [Act.put, List.setIfInBounds_toArray, List.set_cons_zero, List.set_cons_succ, i64_w, i32_w]
        rfl
      refine one_ (i := 6) (N := none) #[true, true, true, true, true, true, true] rfl rfl (by kernel_rfl) (by decide) (fun K hK => ?_)
      refine step_mapUpdate (by rfl) rfl _ _ _ 47 rfl 9 4 (string_keyed Try.underlying9) Try.underlying47 _ bm xs.length (poolD xs) rfl (CM.out _ (by repeat (first | exact HBW.out | apply below_drew | apply below_alloc | apply pw_below_drewN))) (by have := HN.out; have := HX.out; unfold maxLen; omega) _ _ (keyL s) rfl rfl (keyOf_string_mk Try.underlying9 GS.out) (.lit (.bool true)) [] (plainElem_bool Try.underlying4 true) (fun w_ hown1 hgrow1 => ?_)
      refine hK.out _ _ trivial (fun hHeld => ?_)
      clear hK K
      refine done_ (by kernel_rfl) ?_
      obtain ⟨g1_, g2_, g3_⟩ := pl_full H.out hcut.out (by repeat (first | exact HBW.out | apply below_drew | apply below_alloc | apply pw_below_drewN)) hown1 hgrow1
      have q2 := g1_.2.2.1
      rw [HLL.out] at q2
      have s0 := (blk_cell q2 0).trans rfl
      have G1 := Aside0.mk g1_
      have G2 := Aside0.mk g2_
      have G3 := Aside0.mk g3_
      clear q2 g1_ g2_ g3_ hown1 hgrow1 r1 r1d
      go_wp2
      go_ret2
      exact ⟨_, rfl, G1.out, G2.out, G3.out⟩
set_option maxHeartbeats 4000000 in
set_option maxRecDepth 100000 in
theorem pl_add_arg (P base bm : Nat) (v : Value) (xs : List (Int × ByteArray)) (w : World) (h : PL w base P v bm xs) (f : Int) (A : Option Addr) (m c : Nat) (hb : f < 0 ∨ 8 ≤ f ∨ 96 < m) :
    Calls Try.prog 12 #[.pointer (some ⟨P, 0, none⟩), .int .i64 f, .slice A m c] w fun e w' => e = .returned (.tuple #[.int .i64 0, .int .i64 1]) ∧ w' = w := by
  have hu := Try.underlying49
  have g1 := (blk_cell h.2.2.1 1).trans rfl
  clear h
  by_cases i1 : f < 0
  · clear hb
    go_enter Try.func12, Try.ntmps12
    go_wp2_with (go_at_call 37; (with_reducible refine (pl_none P bm _ g1).mono ?_); rintro e w ⟨rfl, rfl⟩)
    go_ret2
    exact ⟨rfl, rfl⟩
  · by_cases i2 : (8 : Int) ≤ f
    · clear hb
      go_enter Try.func12, Try.ntmps12
      go_wp2_with (go_at_call 37; (with_reducible refine (pl_none P bm _ g1).mono ?_); rintro e w ⟨rfl, rfl⟩)
      go_ret2
      exact ⟨rfl, rfl⟩
    · have i3 : (96 : Int) < (m : Int) := by omega
      clear hb
      go_enter Try.func12, Try.ntmps12
      go_wp2_with (go_at_call 37; (with_reducible refine (pl_none P bm _ g1).mono ?_); rintro e w ⟨rfl, rfl⟩)
      go_ret2
      exact ⟨rfl, rfl⟩
set_option maxHeartbeats 4000000 in
set_option maxRecDepth 100000 in
theorem pl_len (P base bm : Nat) (v : Value) (xs : List (Int × ByteArray)) (w : World) (h : PL w base P v bm xs) :
    Calls Try.prog 16 #[.pointer (some ⟨P, 0, none⟩)] w fun e w' => e = .returned (.int .i64 (xs.length : Int)) ∧ w' = w := by
  have hu := Try.underlying49
  obtain ⟨A0, c0, rfl, hlc, _⟩ := Kd.R_reads h.2.2.2.1
  have g0 := (blk_cell h.2.2.1 0).trans rfl
  have g1 := (blk_cell h.2.2.1 1).trans rfl
  clear h
  go_enter Try.func16, Try.ntmps16
  go_wp2_with (go_at_call 37; (with_reducible refine (pl_none P bm _ g1).mono ?_); rintro e w ⟨rfl, rfl⟩)
  go_ret
  exact ⟨rfl, rfl⟩
set_option maxRecDepth 100000 in
theorem pl_look {W : World} {bm : Nat} {xs : List (Int × ByteArray)} (h : PM W bm xs.length (poolD xs)) (s : ByteArray) (hs : s.size ≤ maxLen) :
    (Instr.lookup 47 (.map (some bm)) (.string s) false).run Try.prog W = .ok (.bool (decide (∃ x ∈ xs, x.2 = s))) W := by
  have hz : (zeroValue 4).run Try.prog W = .ok (.bool false) W := by kernel_rfl
  obtain ⟨v, ps, hrun, hv⟩ := World.ownsMap.lookup h (string_keyed Try.underlying9) Try.underlying47 hz (plainElem_bool Try.underlying4 false) (keyOf_string_mk Try.underlying9 hs)
  have he := poolD_sent s xs
  unfold keyL at he
  rw [he] at hv
  rw [hrun]
  cases v <;> simp [plainElem, Try.underlying4] at hv
  rw [hv.1]
set_option maxHeartbeats 4000000 in
set_option maxRecDepth 100000 in
theorem pl_sent (P base bm : Nat) (v : Value) (xs : List (Int × ByteArray)) (w : World) (h : PL w base P v bm xs) (A : Option Addr) (m c : Nat) (l : List Int) (hC : Kd.C (Kd.int .u8) w A m l) (hm : m ≤ 140737488351232) :
    Calls Try.prog 15 #[.pointer (some ⟨P, 0, none⟩), .slice A m c] w fun e w' => e = .returned (.bool (decide (∃ x ∈ xs, x.2 = strOfNums l))) ∧ Below w.heap.size w w' := by
  have hu := Try.underlying49
  have g1 := (blk_cell h.2.2.1 1).trans rfl
  have HS := Aside0.mk (pl_str c hC)
  have hsz : (strOfNums l).size ≤ maxLen := by rw [strOfNums_size, hC.1]; unfold maxLen; omega
  obtain ⟨s, hs⟩ : ∃ s, strOfNums l = s := ⟨_, rfl⟩
  rw [hs] at hsz HS ⊢
  have HL : Aside0 (∀ W, Below w.heap.size w W → (Instr.lookup 47 (.map (some bm)) (.string s) false).run Try.prog W = .ok (.bool (decide (∃ x ∈ xs, x.2 = s))) W) := ⟨fun W hb => pl_look (World.ownsMap.kept h.2.2.2.2 (grown_of_below hb none) (by simp)) s hsz⟩
  have CS : Aside0 (∀ W, Below w.heap.size w W → W.cell? ⟨P, 1, none⟩ = some (.map (some bm))) := ⟨fun W hb => fl_low (g1.trans rfl) hb⟩
  have HBW := Aside0.mk (Below.refl w.heap.size w)
  clear h hC hs hsz g1
  go_enter Try.func15, Try.ntmps15
  go_wp2
  refine start_ (n := 13) (S := fun w' => w'.cell? ⟨P, 1, none⟩ = some (.map (some bm))) (ds := []) #[false, false, false, false, false, false, false, false, false, false, false, false, false] (by kernel_rfl) rfl rfl (CS.out _ (by repeat (first | exact HBW.out | apply below_drew | apply below_alloc | apply pw_below_drewN))) (fun hHeld => ?_); refine with_tabW ps.tab1 ps.bits1 (fun HT_ HW_ => ?_)
  refine take_ (i := 0) (N := (some 5)) (v := ?_) (a' := ?_) #[true, false, false, false, false, false, false, false, false, false, false, false, false] rfl rfl (take_ofW HT_.out HW_.out (by kernel_rfl)) (fun _ _ _ h => h) (Or.inl ⟨by rfl, ?_⟩) hHeld ?_ ?_
  rotate_left
  · rintro w' s0_
    go_simp
    with_reducible rfl
  rotate_left
  · simp only [Act.put, List.setIfInBounds_toArray, List.set_cons_zero, List.set_cons_succ, i64_w, i32_w]
    rfl
  refine one_ (i := 1) (N := (some 6)) #[true, true, false, false, false, false, false, false, false, false, false, false, false] rfl rfl (one_of HT_.out (by kernel_rfl)) (by decide) (fun K hK => ?_)
  refine goes_ Try.func37 (by kernel_rfl) rfl #[(.pointer (some ⟨P, 0, none⟩))] (by rfl) rfl rfl (by first | rfl | (simp only [List.map_toArray, List.map_cons, List.map_nil]; try rfl)) ?_
  (with_reducible refine ((pl_none P bm _ (CS.out _ (by repeat (first | exact HBW.out | apply below_drew | apply below_alloc | apply pw_below_drewN))))).mono ?_)
  rintro e_ w_ ⟨rfl, rfl⟩
  refine ⟨_, rfl, ?_⟩
  refine hK.out _ _ (CS.out _ (by repeat (first | exact HBW.out | apply below_drew | apply below_alloc | apply pw_below_drewN))) (fun hHeld => ?_)
  clear hK K
  refine norm_ (a' := ?_) ?_ ?_
  rotate_left
  · show Act.put _ (some 6) _ = _
    simp only [Act.put, List.setIfInBounds_toArray, List.set_cons_zero, List.set_cons_succ, i64_w, i32_w]
    rfl
  refine take_ (i := 2) (N := (some 7)) (v := ?_) (a' := ?_) #[true, true, true, false, false, false, false, false, false, false, false, false, false] rfl rfl (take_ofW HT_.out HW_.out (by kernel_rfl)) (fun _ _ _ h => h) (Or.inl ⟨by rfl, ?_⟩) hHeld ?_ ?_
  rotate_left
  · rintro w' s0_
    go_simp
    with_reducible rfl
  rotate_left
  · simp only [Act.put, List.setIfInBounds_toArray, List.set_cons_zero, List.set_cons_succ, i64_w, i32_w]
    rfl
  refine take_ (i := 3) (N := (some 8)) (v := ?_) (a' := ?_) #[true, true, true, true, false, false, false, false, false, false, false, false, false] rfl rfl (take_ofW HT_.out HW_.out (by kernel_rfl)) (fun _ _ _ h => h) (Or.inl ⟨by rfl, ?_⟩) hHeld ?_ ?_
  rotate_left
  · rintro w' s0_
    go_simp
    with_reducible rfl
  rotate_left
  · simp only [Act.put, List.setIfInBounds_toArray, List.set_cons_zero, List.set_cons_succ, i64_w, i32_w]
    rfl
  refine take_ (i := 4) (N := (some 9)) (v := ?_) (a' := ?_) #[true, true, true, true, true, false, false, false, false, false, false, false, false] rfl rfl (take_ofW HT_.out HW_.out (by kernel_rfl)) (fun _ _ _ h => h) (Or.inl ⟨by rfl, ?_⟩) hHeld ?_ ?_
  rotate_left
  · rintro w' s0_
    go_simp
    with_reducible rfl
  rotate_left
  · simp only [Act.put, List.setIfInBounds_toArray, List.set_cons_zero, List.set_cons_succ, i64_w, i32_w]
    rfl
  refine take_ (i := 5) (N := (some 10)) (v := ?_) (a' := ?_) #[true, true, true, true, true, true, false, false, false, false, false, false, false] rfl rfl (take_ofW HT_.out HW_.out (by kernel_rfl)) (fun _ _ _ h => h) (Or.inl ⟨by rfl, ?_⟩) hHeld ?_ ?_
  rotate_left
  · rintro w' s0_
    go_simp
    with_reducible rfl
  rotate_left
  · simp only [Act.put, List.setIfInBounds_toArray, List.set_cons_zero, List.set_cons_succ, i64_w, i32_w]
    rfl
  refine take_ (i := 6) (N := (some 11)) (v := ?_) (a' := ?_) #[true, true, true, true, true, true, true, false, false, false, false, false, false] rfl rfl (take_ofW HT_.out HW_.out (by kernel_rfl)) (fun _ _ _ h => h) (Or.inl ⟨by rfl, ?_⟩) hHeld ?_ ?_
  rotate_left
  · rintro w' s0_
    go_simp
    with_reducible rfl
  rotate_left
  · simp only [Act.put, List.setIfInBounds_toArray, List.set_cons_zero, List.set_cons_succ, i64_w, i32_w]
    rfl
  refine take_ (i := 7) (N := (some 12)) (v := ?_) (a' := ?_) #[true, true, true, true, true, true, true, true, false, false, false, false, false] rfl rfl (take_ofW HT_.out HW_.out (by kernel_rfl)) (fun _ _ _ h => h) (Or.inl ⟨by rfl, ?_⟩) hHeld ?_ ?_
  rotate_left
  · rintro w' s0_
    go_simp
    with_reducible rfl
  rotate_left
  · simp only [Act.put, List.setIfInBounds_toArray, List.set_cons_zero, List.set_cons_succ, i64_w, i32_w]
    rfl
  refine take_ (i := 8) (N := (some 13)) (v := ?_) (a' := ?_) #[true, true, true, true, true, true, true, true, true, false, false, false, false] rfl rfl (take_ofW HT_.out HW_.out (by kernel_rfl)) (fun _ _ _ h => h) (Or.inl ⟨by rfl, ?_⟩) hHeld ?_ ?_
  rotate_left
  · rintro w' s0_
    go_simp
    with_reducible rfl
  rotate_left
  · simp only [Act.put, List.setIfInBounds_toArray, List.set_cons_zero, List.set_cons_succ, i64_w, i32_w]
    rfl
  refine one_ (i := 9) (N := (some 14)) #[true, true, true, true, true, true, true, true, true, true, false, false, false] rfl rfl (one_of HT_.out (by kernel_rfl)) (by decide) (fun K hK => ?_)
  refine value_ (by rfl) rfl (v := ?_) (w1 := ?_) ?_ ?_
  rotate_left 2
  · (go_simp; rw [HS.out _ (by repeat (first | exact HBW.out | apply below_drew | apply below_alloc | apply pw_below_drewN))]; exact rfl)
  refine hK.out _ _ (CS.out _ (by repeat (first | exact HBW.out | apply below_drew | apply below_alloc | apply pw_below_drewN))) (fun hHeld => ?_)
  clear hK K
  refine norm_ (a' := ?_) ?_ ?_
  rotate_left
  · show Act.put _ (some 14) _ = _
    simp only [Act.put, List.setIfInBounds_toArray, List.set_cons_zero, List.set_cons_succ, i64_w, i32_w]
    rfl
  refine one_ (i := 10) (N := (some 15)) #[true, true, true, true, true, true, true, true, true, true, true, false, false] rfl rfl (one_of HT_.out (by kernel_rfl)) (by decide) (fun K hK => ?_)
  refine value_ (by rfl) rfl (v := ?_) (w1 := ?_) ?_ ?_
  rotate_left 2
  · (go_simp; rw [HL.out _ (by repeat (first | exact HBW.out | apply below_drew | apply below_alloc | apply pw_below_drewN))]; exact rfl)
  refine hK.out _ _ (CS.out _ (by repeat (first | exact HBW.out | apply below_drew | apply below_alloc | apply pw_below_drewN))) (fun hHeld => ?_)
  clear hK K
  refine norm_ (a' := ?_) ?_ ?_
  rotate_left
  · show Act.put _ (some 15) _ = _
    simp only [Act.put, List.setIfInBounds_toArray, List.set_cons_zero, List.set_cons_succ, i64_w, i32_w]
    rfl
  refine take_ (i := 11) (N := (some 16)) (v := ?_) (a' := ?_) #[true, true, true, true, true, true, true, true, true, true, true, true, false] rfl rfl (take_ofW HT_.out HW_.out (by kernel_rfl)) (fun _ _ _ h => h) (Or.inl ⟨by rfl, ?_⟩) hHeld ?_ ?_
  rotate_left
  · rintro w' s0_
    go_simp
    with_reducible rfl
  rotate_left
  · simp only [Act.put, List.setIfInBounds_toArray, List.set_cons_zero, List.set_cons_succ, i64_w, i32_w]
    rfl
  refine take_ (i := 12) (N := (some 4)) (v := ?_) (a' := ?_) #[true, true, true, true, true, true, true, true, true, true, true, true, true] rfl rfl (take_ofW HT_.out HW_.out (by kernel_rfl)) (fun _ _ _ h => h) (Or.inl ⟨by rfl, ?_⟩) hHeld ?_ ?_
  rotate_left
  · rintro w' s0_
    go_simp
    with_reducible rfl
  rotate_left
  · simp only [Act.put, List.setIfInBounds_toArray, List.set_cons_zero, List.set_cons_succ, i64_w, i32_w]
    rfl
  refine done_ (done_of HT_.out (by kernel_rfl)) ?_
  go_wp2
  go_ret
  exact ⟨rfl, (by repeat (first | exact HBW.out | apply below_drew | apply below_alloc | apply pw_below_drewN))⟩
end Go.Proofs.Ytecaifadcggijaa.Obj
