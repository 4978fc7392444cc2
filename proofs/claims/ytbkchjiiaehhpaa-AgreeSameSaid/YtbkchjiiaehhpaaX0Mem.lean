-- WORDS
import Derived.Test.YtbkchjiiaehhpaaWWords
import Derived.Test.YtbkchjiiaehhpaaWMore
import Derived.Laws.CopyOwn
namespace Go.Proofs.YtbkchjiiaehhpaaW.PrintMore
open Go.RowKit Go.Proofs.YtbkchjiiaehhpaaW.PrintWords
set_option linter.unusedVariables false
set_option linter.unusedSimpArgs false
section
variable {P : Program} {ops : Array Oper} {rest : List Oper} {o : Oper} {a : Act} {Q : Exit → Act → World → Prop}
/-- make([]T, n, c), T a whole number. -/
theorem x_makecap (k : IntKind) {w0 W : World} (base e : Nat) (hgd : o.guard = none) {N : Tmp} (hd : o.dst = some N) (t : TypeId) (x y : Operand) (ho : o.op = .makeSlice t x y) (n c : Int) (hx : a.eval x = .int .i64 n) (hy : a.eval y = .int .i64 c)
    (ht : P.underlying t = some (.slice e)) (bytes : Nat) (hinfo : (P.info? e).map (fun i => (i.zero, i.size, i.bytes)) = some (some (.int k 0), 1, bytes)) (hb0 : 0 < bytes)
    (h0 : 0 ≤ n) (hnc : n ≤ c) (hl : c.toNat * bytes ≤ 281474976710656) (HB : Below base w0 W) (hbase : base ≤ W.heap.size)
    (h : ∀ v1 w1, (Kd.int k).R e w1 base (fun _ => True) v1 (List.replicate n.toNat 0) → Below base w0 w1 → W.grownBy w1 none → (∃ b, v1.ownBlock = some b ∧ W.heap.size ≤ b) → wpList P ops Q rest (a.put o.dst v1) w1) : wpList P ops Q (o :: rest) a W := by
  obtain ⟨m, rfl⟩ := Int.eq_ofNat_of_zero_le h0
  obtain ⟨q, rfl⟩ := Int.eq_ofNat_of_zero_le (Int.le_trans h0 hnc)
  simp only [Int.toNat_natCast] at hl h
  obtain ⟨i0, hi, hzz⟩ := Option.map_eq_some_iff.1 hinfo
  simp only [Prod.mk.injEq] at hzz
  obtain ⟨hz0, hz1, hz2⟩ := hzz
  have hm : q ≤ 281474976710656 := Nat.le_trans (Nat.le_mul_of_pos_right _ hb0) hl
  have hr := run_make (P := P) W t e i0 (.int k 0) ht hi hz0 .i64 .i64 (m : Int) (q : Int) (by omega) hnc
    (by
      have h3 : ((i0.bytes * q : Nat) : Int) ≤ 281474976710656 := by rw [hz2, Nat.mul_comm]; omega
      rwa [Int.natCast_mul] at h3) (by omega)
  simp only [Int.toNat_natCast] at hr
  rw [hz1, Nat.mul_one] at hr
  have hcs : (madeCells #[Value.int k 0] q).toList.take m = encs (Value.int k) (List.replicate m 0) := by
    show _ = nums k (List.replicate m 0)
    apply List.ext_getElem
    · simp [nums, madeCells]; omega
    · intro i h1 h2
      simp [nums, madeCells, Nat.mod_one]
  refine wpList_plain hgd fun K hK => ?_
  unfold Oper.wp
  have : (execOp a.eval o).run P W = .ok (.value (.slice (some ⟨W.heap.size, 0, none⟩) m q)) (W.alloc (.cells (madeCells #[Value.int k 0] q) e)) := by
    simp [execOp, ho, hx, hy, hr]
    rfl
  rw [this]
  refine hK _ _ (h _ _ (Kd.R_of_own ?_ (fun _ _ => trivial)) (HB.alloc hbase _) (World.grownBy_alloc _ _ _) ⟨_, rfl, Nat.le_refl _⟩)
  refine ⟨by simp [encs_length], .inr ⟨W.heap.size, q, _, by simp, hbase, heap_alloc_new W _, by simp; omega, by simp [maxLen]; omega, by simp [size_madeCells], ?_⟩⟩
  simpa using hcs
/-- copy(dst, src): dst a row of the call's own as long as src. -/
theorem x_copy (k : IntKind) {w0 W : World} (base e : Nat) (hgd : o.guard = none) (d s : Operand) (dT sT : TypeId)
    (ho : o.op = .call { callee := .builtin .copy, args := #[d, s], argTypes := #[dT, sT] }) (hu : P.underlying dT = some (.slice e)) (hsz : (P.info? e).map (·.size) = some 1)
    (v : Value) (xs ys : List Int) (A : Option Addr) (c : Nat) (ok : Nat → Prop) (hdv : a.eval d = v) (hsv : a.eval s = .slice A ys.length c)
    (HO : (Kd.int k).R e W base ok v xs) (HR : (Kd.int k).C W A ys.length ys) (hlen : ys.length ≤ xs.length) (HB : Below base w0 W)
    (h : ∀ w1, (Kd.int k).R e w1 base ok v (ys ++ xs.drop ys.length) → Below base w0 w1 → W.grownBy w1 v.ownBlock → wpList P ops Q rest (a.put o.dst (goInt ys.length)) w1) : wpList P ops Q (o :: rest) a W := by
  have ho1 := Kd.own_of_R HO
  by_cases h0 : ys = []
  · subst h0
    obtain ⟨A', c', rfl⟩ := own_slice ho1
    refine wpList_copy_nothing hgd d s dT sT ho e hu hsz _ _ _ _ _ _ hdv hsv (by simp) ?_
    exact h W (by simpa using HO) HB ⟨rfl, rfl, rfl, Nat.le_refl _, fun _ _ _ => rfl⟩
  · have hpos : 0 < ys.length := List.length_pos_iff.2 h0
    rcases ho1.2 with ⟨rfl, hn⟩ | ⟨g, cap, cur, rfl, hg, hh, hnc, hcm, hcs, htk⟩
    · omega
    · obtain ⟨ad, rfl, hc⟩ := (Kd.reads_of_C (d := (0 : Int)) HR).2.2 hpos
      have hsrc : ∀ j u, (nums k ys)[j]? = some u → W.cell? (ad.add j) = some u := by
        intro j u hj
        obtain ⟨hl, hp⟩ := List.getElem?_eq_some_iff.1 hj
        simp [nums] at hl
        rw [hc j hl]
        simp [nums] at hp
        simp [List.getD_eq_getElem?_getD, List.getElem?_eq_getElem hl, hp]
      have hcap : xs.length ≤ cur.size := by omega
      refine wpList_copy_own hgd d s dT sT ho e hu hsz g 0 xs.length cap ad ys.length c hdv hsv cur e hh (nums k ys) (by simp [nums, Nat.min_eq_left hlen]) hsrc (by simp [nums]; omega) (by simp [nums, Value.oneCell']) ?_
      simp only [nums_length]
      refine h _ (Kd.R_of_own ?_ HO.1) (below_setRow HB hg _) ?_
      · refine ⟨?_, .inr ⟨g, cap, _, ?_, hg, setRow_heap W g _ _ e _ hh, ?_, hcm, ?_, ?_⟩⟩
        · simp [encs]
        · simp; omega
        · simp; omega
        · simp [nums]; omega
        · have hcur : cur.toList.take xs.length = nums k xs := by simpa [nums, encs] using htk
          show _ = nums k (ys ++ xs.drop ys.length)
          simp only [Nat.mul_one, List.take_zero, List.nil_append, Nat.zero_add, List.length_append, List.length_drop]
          have e1 : ys.length + (xs.length - ys.length) = xs.length := by omega
          rw [e1, List.take_append, nums_length, List.take_of_length_le (by rw [nums_length]; exact hlen), nums_append]
          congr 1
          rw [← List.drop_take, hcur]
          simp [nums, List.map_drop]
      · exact ⟨rfl, rfl, rfl, by simp [World.setRow], fun i hi hne => setRow_other W g i _ (by intro e'; subst e'; exact hne rfl)⟩
/-- append(v, ys...), whole numbers. -/
theorem x_append (k : IntKind) {w0 W : World} (base : Nat) (hgd : o.guard = none) (s x : Operand) (t e : TypeId) (bytes : Nat)
    (ho : o.op = .call { callee := .builtin .append, args := #[s, x], argTypes := #[t, t] })
    (ht : P.underlying t = some (.slice e)) (hinfo : (P.info? e).map (fun i => (i.zero, i.size, i.bytes)) = some (some (.int k 0), 1, bytes)) (hb0 : 0 < bytes)
    (v : Value) (xs ys : List Int) (A : Option Addr) (m c : Nat) (hs : a.eval s = v) (hx : a.eval x = .slice A m c)
    (HO : (Kd.int k).R e W base (fun _ => True) v xs) (HR : (Kd.int k).C W A m ys) (HB : Below base w0 W) (hbase : base ≤ W.heap.size) (hl : (xs.length + m) * bytes ≤ 140737488355328)
    (h : ∀ v1 w1, (Kd.int k).R e w1 base (fun _ => True) v1 (xs ++ ys) → Below base w0 w1 → W.grownBy w1 v.ownBlock → (v1.ownBlock = v.ownBlock ∨ ∃ b, v1.ownBlock = some b ∧ W.heap.size ≤ b) → wpList P ops Q rest (a.put o.dst v1) w1) :
    wpList P ops Q (o :: rest) a W :=
  print_append_row base hgd s x t e k bytes ho ht hinfo hb0 v xs ys A m c hs hx (Kd.own_of_R HO) (Kd.reads_of_C HR) HB hbase hl
    (fun v1 w1 h1 h2 h3 h4 => h v1 w1 (Kd.R_of_own h1 (fun _ _ => trivial)) h2 h3 h4)
end
/-- A literal row that was just made. -/
theorem x_lit_C (k : IntKind) (W : World) (e : TypeId) (ys : List Int) (h : ys.length ≤ 9223372036854775807) : (Kd.int k).C (W.alloc (.cells (nums k ys).toArray e)) (some ⟨W.heap.size, 0, none⟩) ys.length ys := by
  have h1 := own_lit W W.heap.size e k ys (Nat.le_refl _) h
  have h2 := Kd.R_of_own (enc := Value.int k) (h1 := fun _ => rfl) (ok := fun _ => True) h1 (fun _ _ => trivial)
  obtain ⟨A, c, he, _, hc⟩ := Kd.R_reads h2
  injection he with he _ _
  subst he
  exact hc

end Go.Proofs.YtbkchjiiaehhpaaW.PrintMore
namespace Go.Proofs.YtbkchjiiaehhpaaW.PrintWords
open Go.RowKit
set_option linter.unusedVariables false
set_option linter.unusedSimpArgs false
namespace Kd
section
variable {α : Type} {P : Program} {ops : Array Oper} {rest : List Oper} {o : Oper} {a : Act} {Q : Exit → Act → World → Prop}
/-- make([]T, n, c): every element is z0, whose cells are the type's zero's. -/
theorem R_makecap (d : Kd α) {w0 W : World} (base e : Nat) (hgd : o.guard = none) {N : Tmp} (hd : o.dst = some N) (t : TypeId) (x y : Operand) (ho : o.op = .makeSlice t x y) (n c : Int) (hx : a.eval x = .int .i64 n) (hy : a.eval y = .int .i64 c)
    (ht : P.underlying t = some (.slice e)) (z : Value) (bytes : Nat) (hinfo : (P.info? e).map (fun i => (i.zero, i.size, i.bytes)) = some (some z, d.sz, bytes)) (hz : z.cells.size = d.sz) (hs0 : 0 < d.sz) (hb0 : 0 < bytes)
    (z0 : α) {ok okp : Nat → Prop} (hzero : d.M W base okp z0 z.cells.toList) (hok : ∀ k, okp k → ok k) (hfresh : ok W.heap.size) (h0 : 0 ≤ n) (hnc : n ≤ c) (hl : c.toNat * bytes ≤ 281474976710656) (HB : Below base w0 W) (hbase : base ≤ W.heap.size)
    (h : ∀ v1 w1, d.R e w1 base ok v1 (List.replicate n.toNat z0) → Below base w0 w1 → W.grownBy w1 none → (∃ b, v1.ownBlock = some b ∧ W.heap.size ≤ b) → wpList P ops Q rest (a.put o.dst v1) w1) : wpList P ops Q (o :: rest) a W := by
  obtain ⟨m, rfl⟩ := Int.eq_ofNat_of_zero_le h0
  obtain ⟨q, rfl⟩ := Int.eq_ofNat_of_zero_le (Int.le_trans h0 hnc)
  simp only [Int.toNat_natCast] at hl h
  obtain ⟨i0, hi, hzz⟩ := Option.map_eq_some_iff.1 hinfo
  simp only [Prod.mk.injEq] at hzz
  obtain ⟨hz0, hz1, hz2⟩ := hzz
  have hm : q ≤ 281474976710656 := Nat.le_trans (Nat.le_mul_of_pos_right _ hb0) hl
  have hr := run_make (P := P) W t e i0 z ht hi hz0 .i64 .i64 (m : Int) (q : Int) (by omega) hnc
    (by
      have h3 : ((i0.bytes * q : Nat) : Int) ≤ 281474976710656 := by rw [hz2, Nat.mul_comm]; omega
      rwa [Int.natCast_mul] at h3) (by omega)
  simp only [Int.toNat_natCast] at hr
  rw [hz1] at hr
  have hmq : m ≤ q := by omega
  have hcs : (madeCells z.cells (q * d.sz)).toList.take (m * d.sz) = (madeCells z.cells (m * d.sz)).toList := by
    have hle : m * d.sz ≤ q * d.sz := Nat.mul_le_mul_right _ hmq
    apply List.ext_getElem
    · rw [List.length_take, Array.length_toList, Array.length_toList, size_madeCells, size_madeCells]; exact Nat.min_eq_left hle
    · intro i h1 h2
      simp [madeCells]
  have hrep := reps_made (R := d.M W base okp) hz hs0 hzero m
  have hrun : (execOp a.eval o).run P W = .ok (.value (.slice (some ⟨W.heap.size, 0, none⟩) m q)) (W.alloc (.cells (madeCells z.cells (q * d.sz)) e)) := by
    simp only [execOp, ho, hx, hy, Sem.run_bind, hr, Result.andThen_ok]
    rfl
  refine event_run hgd hrun (h _ _ ⟨fun k hk => ?_, (madeCells z.cells (m * d.sz)).toList, ?_, ?_⟩ (HB.alloc hbase _) (World.grownBy_alloc W _ none) ⟨W.heap.size, by simp [Value.ownBlock], Nat.le_refl _⟩)
  · have : W.heap.size = k := by simpa [Value.ownBlock] using hk
    subst this
    exact hfresh
  · refine ⟨by simpa using hrep.1, .inr ⟨W.heap.size, q, _, by simp, hbase, heap_alloc_new W _, by simpa using hmq, by simp [maxLen]; omega, by simp [size_madeCells], ?_⟩⟩
    simpa using hcs
  · refine hrep.imp_ (fun p c hp => d.M_mono (fun k hk => ⟨hok k hk.1, fun he => ?_⟩) (M_below (d.M_bound hp) (below_alloc (Below.refl _ _) _)))
    have h3 : k = W.heap.size := by simpa [Value.ownBlock] using he
    have := hk.2.2.1
    omega
end
end Kd
end Go.Proofs.YtbkchjiiaehhpaaW.PrintWords
