/- Contracts of Go functions that the claims of this seat share. -/
import Derived.Test.YtbkchjiiaehhpaaProg
import Derived.Below
import Derived.Deep.Draws
import Derived.Deep.AppendLies
import Derived.Maps.AppendAt
import Derived.OwnWalk
import Derived.Laws.BytesArg
import Derived.Laws.MakeOwn
import Derived.Laws.OwnMore
import Derived.Deep.OwnRows
import Derived.Tactics
import Derived.Lib.ConvBytes
import Derived.Laws.Slices
import Derived.WalkKit
import Derived.KernelRfl
import Derived.RowKit3
import Derived.Deep.LoopGhost
import Derived.Deep.QuietTactic
import Derived.BigQuiet
import Derived.WideLaws
import Derived.Deep.DeepCutAuto
import Derived.Deep.CutBlock
import Derived.Deep.RegionHeld3
import Derived.Laws.Rows
import Derived.Lib.AppendStr
import Derived.ArgAppend
import Derived.Laws.IdiomCopy
import Derived.OrdersHeld
import Derived.Laws.BitsLemmas
import Derived.RowKit
import Derived.Test.YtbkchjiiaehhpaaWWords
import Derived.Test.YtbkchjiiaehhpaaWLast
import Derived.Test.YtbkchjiiaehhpaaWTab
import Derived.Test.YtbkchjiiaehhpaaWFour
import Derived.Test.YtbkchjiiaehhpaaWQPut
import Derived.Test.YtbkchjiiaehhpaaWApart
import Derived.Test.YtbkchjiiaehhpaaWArr
import Derived.Test.YtbkchjiiaehhpaaWZeros
import Derived.Test.YtbkchjiiaehhpaaWFoot
import Derived.Test.YtbkchjiiaehhpaaWKept
import Derived.Test.YtbkchjiiaehhpaaWShare
import Derived.Test.YtbkchjiiaehhpaaWN
import Derived.Test.YtbkchjiiaehhpaaWFootNe
import Derived.Test.YtbkchjiiaehhpaaWAt
import Derived.Test.YtbkchjiiaehhpaaWEqStruct
import Derived.Test.YtbkchjiiaehhpaaWRepsOne
import Derived.Test.YtbkchjiiaehhpaaWInv
import Derived.Test.YtbkchjiiaehhpaaWInvWords
import Derived.Test.YtbkchjiiaehhpaaWGuard
import Derived.Test.YtbkchjiiaehhpaaWNEv
import Derived.Test.YtbkchjiiaehhpaaWMore
import Derived.Test.YtbkchjiiaehhpaaX0Mem
import Derived.Test.YtbkchjiiaehhpaaX1Pure
import Derived.Test.YtbkchjiiaehhpaaXAgrB
import Derived.Deep.DeepCutAuto
namespace Go.Proofs.Ytbkchjiiaehhpaa.Obj
open Go.RowKit Go.Proofs.YtbkchjiiaehhpaaW.PrintWords Go.Proofs.YtbkchjiiaehhpaaW.PrintLast Go.Proofs.YtbkchjiiaehhpaaW.PrintMore
set_option linter.unusedVariables false
set_option linter.unusedSimpArgs false

open Go.Maps Go.WideMaps
section
variable {P : Program} {ops : Array Oper} {o : Oper} {a : Act} {Q : Exit → Act → World → Prop} {Kc : Act → World → Prop}
theorem step_mapUpdate {H : Type} {W : World} (hw : Region.wanted o (yielded ops a.tmps) = true) (hN : o.dst = none) (m x v : Operand) (t : TypeId) (hop : o.op = Op.mapUpdate t m x v)
    (k e : TypeId) (K : Keyed P k) (ht : P.underlying t = some (.map k e)) (R : Value → Option (DataW H × List MemPlace)) (b n : Nat) (D : DataW H)
    (hm : a.eval m = .map (some b)) (hown : W.ownsMap P k R b n D) (hn : n < maxLen) (key val : Value) (kl : Lit) (hx : a.eval x = key) (hv : a.eval v = val) (hkey : keyOf P k key = some kl)
    (d : DataW H) (ps : List MemPlace) (hval : R val = some (d, ps))
    (h : ∀ w', w'.ownsMap P k R b (n + 1) (D.put kl d) → W.grownBy w' (some b) → Kc a w') : if Region.wanted o (yielded ops a.tmps) = true then Oper.wp P o a W Kc Q else Kc (a.put none undef) W := by
  obtain ⟨w', hrun, r1, r2⟩ := hown.update K ht hn hkey hval
  refine skip_ hw hN (w1 := w') ?_ (h _ r1 r2)
  simp [execOp, hop, hm, hx, hv, hrun, Result.andThen]
end
theorem keyR_lit (r : Int) : WideAt.IsKeyLit (keyR r) := by
  unfold keyR
  exact trivial
theorem tells_put {W : World} {bm n : Nat} {D : DataW Unit} (h : AM W bm n D) (r : Int) (vt : List Int) (hl : vt.length = 8) : Tells (D.put (keyR r) (encV vt)) r vt :=
  ⟨hl, .inl ⟨Maps.has_put_same (World.ownsMap.isMap h) (keyR_lit r) _, fun z => Maps.atKey_put_same (World.ownsMap.isMap h) (keyR_lit r) _ z⟩⟩
theorem ag_put {w W w2 : World} {base A bm n : Nat} {c : List Int} {i last v : Int} {D D2 : DataW Unit} (h : AG w base A c i bm n D last v) (hb : Below w.heap.size w W) (ho : w2.ownsMap Try.prog 3 R8 bm (n + 1) D2) (hg : W.grownBy w2 (some bm)) :
    AG w2 base A c i bm (n + 1) D2 last v ∧ Kept w w2 (fun k => k = bm) ∧ Below base w w2 := by
  obtain ⟨h1, h2, h3, h4, h5⟩ := h
  have hne : bm ≠ A := AM.ne h5 h4
  have hbase : base ≤ w.heap.size := Nat.le_trans h1 (Nat.le_of_lt (blk_lt h4))
  refine ⟨⟨h1, h2, h3, blk_grown (blk_below h4 hb) hg (fun e => hne (by injection e with e; exact e.symm)), ho⟩, Kept.of_grown hg (Kept.of_below hb _) (fun k hk => .inl (by injection hk with hk; exact hk.symm)), ?_⟩
  exact (b_cut hb hbase).grown hg (Nat.le_trans hbase hb.size) (fun k hk => by injection hk with hk; rw [← hk]; exact h2)
set_option maxHeartbeats 8000000 in
set_option maxRecDepth 100000 in
theorem ag_hear (A base bm n : Nat) (c : List Int) (i v last : Int) (D : DataW Unit) (r told : Int) (fN : Nat) (vt : List Int) (w : World) (h : AG w base A c i bm n D last v) (ht : Tells D r vt) (hr : 0 ≤ r ∧ r < 1048576) (hf : (fN : Int) < c.getD 0 0) (hf8 : fN < 8) (htold : 0 ≤ told ∧ told ≤ 255) (hvt : vt.getD fN 0 = -1) (hn : n < 1000000) :
    Calls Try.prog 39 #[.pointer (some ⟨A, 0, none⟩), .int .i64 r, .int .i64 (fN : Int), .int .i64 told] w fun e w' => e = .returned (.int .i64 0) ∧ AG w' base A c i bm (n + 1) (D.put (keyR r) (encV (vt.set fN told))) last v ∧ Kept w w' (fun k => k = bm) ∧ Below base w w' := by
  have hu := Try.underlying63
  have hu2 := Try.underlying60
  obtain ⟨c0, c1, c2, c3, c4, c5, c6, c7, c8, c9, rfl, g0, g1, g3, g10, g11, g12, g13, g14⟩ := ag_cells h
  have e0 : ([c0, c1, c2, c3, c4, c5, c6, c7, c8, c9] : List Int).getD 0 0 = c0 := rfl
  rw [e0] at hf
  have H := Aside0.mk h
  have HT := Aside0.mk ht
  have HL := Aside0.mk ht.1
  have HV := Aside0.mk hvt
  have HN := Aside0.mk hn
  have HBS := Aside0.mk (Nat.le_trans h.1 (Nat.le_of_lt (blk_lt h.2.2.2.1)))
  have hr2 : -9223372036854775808 ≤ r ∧ r ≤ 9223372036854775807 := by omega
  have HR := Aside0.mk hr2
  have k1 : 0 ≤ r := hr.1
  have k2 : r < 1048576 := hr.2
  have k3 : ¬ r < 0 := by omega
  have k4 : ¬ ((fN : Int) < 0) := by omega
  have k5 : ¬ (c0 ≤ (fN : Int)) := by omega
  have k6 : ¬ (told < 0) := by omega
  have k7 : ¬ (255 < told) := by omega
  have k8 : (fN : Int) < 8 := by omega
  have I0 := ag_size
  clear h ht e0 hr2 g13 g14 g1 g3 g10
  go_enter Try.func39, Try.ntmps39
  go_upto_region 12 with (first
    | (go_at_call 87; (with_reducible refine (ag_none A bm _ g11).mono ?_); rintro e w ⟨rfl, rfl⟩)
    | (go_at_call 88; (with_reducible refine (ag_isRound r _ k1 k2).mono ?_); rintro e w ⟨rfl, rfl⟩)
    | (go_at_call 89; (with_reducible refine (ag_of A base bm n _ _ last v D r vt _ H.out HT.out HR.out).mono ?_); rintro e w1 ⟨rfl, hb⟩; have HB1 := Aside0.mk hb; clear hb; unfold vA)
    | ((with_reducible refine gate_store (t := 137) (p := 9) (v := .tmp 39) rfl ?_); refine x_arrStore rfl 137 (.tmp 9) (.tmp 39) rfl w1.heap.size (nums .i64 (NBk 0)).toArray (nums .i64 vt).toArray rfl rfl (heap_alloc_new _ _) (by rw [vA_size HL.out]; exact ag_size) (by rw [vA_size (NBk_len 0 (by decide)), vA_size HL.out]) (vA_one _) ?_; intro W3 hh hg; have X1 : Aside0 (VB W3 w1.heap.size vt) := ⟨hh⟩; have XB := Aside0.mk (below_step HB1.out (((Below.refl _ w1).alloc (Nat.le_refl _) _).grown hg (by simp) (fun k hk => by injection hk with hk; omega))); have hle := HB1.out.size; clear hh hg))
  obtain ⟨BV, hBV⟩ : ∃ B, w1.heap.size = B := ⟨_, rfl⟩
  rw [hBV] at X1 hle ⊢
  clear hBV
  have q1 := X1.out.at fN (by rw [HL.out]; exact hf8)
  rw [HV.out] at q1
  have q2 := X1.out.free fN
  go_upto_region 15 with fail
  have X4 : Aside0 (VB (W3.setCell ⟨BV, fN, none⟩ (.int .i64 told)) BV (vt.set fN told)) := ⟨X1.out.put fN told⟩
  have XB4 : Aside0 (Below w.heap.size w (W3.setCell ⟨BV, fN, none⟩ (.int .i64 told))) := ⟨XB.out.setCell (p := ⟨BV, fN, none⟩) hle _⟩
  generalize (W3.setCell ⟨BV, fN, none⟩ (Value.int .i64 told)) = W4 at X4 XB4 ⊢
  clear q1 q2 X1 XB g0 g11 g12
  have HBW := Aside0.mk (Below.refl W4.heap.size W4)
  have C11 : Aside0 (∀ W, Below w.heap.size w W → W.cell? ⟨A, 11, none⟩ = some (.map (some bm))) := ⟨fun W hb => (ag_cells (H.out.below hb)).elim fun _ h => by obtain ⟨_, _, _, _, _, _, _, _, _, _, _, _, _, _, h11, _⟩ := h; exact h11⟩
  have CM : Aside0 (∀ W, Below w.heap.size w W → AM W bm n D) := ⟨fun W hb => (H.out.below hb).2.2.2.2⟩
  have HL2 : Aside0 ((vt.set fN told).length = 8) := ⟨by rw [List.length_set]; exact HL.out⟩
  have r11 := C11.out W4 XB4.out
  have r11d : W4.drew.cell? ⟨A, 11, none⟩ = some (.map (some bm)) := r11
  have hwf : (Lit.int .i64 r).wf = true := WalkArith.wf_i64 HR.out
  have HWF := Aside0.mk hwf
  clear hwf
  refine start_ (n := 7) (S := fun w' => True) (ds := []) #[false, false, false, false, false, false, false] (by kernel_rfl) rfl rfl trivial (fun hHeld => ?_)
  refine take_ (i := 0) (N := (some 54)) (v := ?_) (a' := ?_) #[true, false, false, false, false, false, false] rfl rfl (by kernel_rfl) (fun _ _ _ h => h) (Or.inl ⟨by rfl, ?_⟩) hHeld ?_ ?_
  rotate_left
  · rintro w' _
    go_simp
    with_reducible rfl
  rotate_left
  · simp only [Act.put, List.setIfInBounds_toArray, List.set_cons_zero, List.set_cons_succ, i64_w, i32_w]
    rfl
  refine take_ (i := 1) (N := (some 55)) (v := ?_) (a' := ?_) #[true, true, false, false, false, false, false] rfl rfl (by kernel_rfl) (fun _ _ _ h => h) (Or.inl ⟨by rfl, ?_⟩) hHeld ?_ ?_
  rotate_left
  · rintro w' _
    go_simp
    with_reducible rfl
  rotate_left
  · simp only [Act.put, List.setIfInBounds_toArray, List.set_cons_zero, List.set_cons_succ, i64_w, i32_w]
    rfl
  refine take_ (i := 2) (N := (some 56)) (v := ?_) (a' := ?_) #[true, true, true, false, false, false, false] rfl rfl (by kernel_rfl) (fun _ _ _ h => h) (Or.inl ⟨by rfl, ?_⟩) hHeld ?_ ?_
  rotate_left
  · rintro w' _
    go_simp
    with_reducible rfl
  rotate_left
  · simp only [Act.put, List.setIfInBounds_toArray, List.set_cons_zero, List.set_cons_succ, i64_w, i32_w]
    rfl
  refine take_ (i := 4) (N := (some 58)) (v := ?_) (a' := ?_) #[true, true, true, false, true, false, false] rfl rfl (by kernel_rfl) (fun _ _ _ h => h) (Or.inl ⟨by rfl, ?_⟩) hHeld ?_ ?_
  rotate_left
  · rintro w' _
    go_simp
    with_reducible rfl
  rotate_left
  · simp only [Act.put, List.setIfInBounds_toArray, List.set_cons_zero, List.set_cons_succ, i64_w, i32_w]
    rfl
  refine two_ (i := 3) (j := 5) (Ni := (some 57)) (Nj := (some 59)) #[true, true, true, true, true, false, false] #[true, true, true, false, true, true, false] rfl rfl rfl rfl (by kernel_rfl) (by decide) (by decide) (fun K hK => ?_)  (fun K hK => ?_)
  · skip
    refine value_ (by rfl) rfl (v := ?_) (w1 := ?_) ?_ ?_
    rotate_left 2
    · (go_simp; first | (with_reducible rfl) | (constructor <;> with_reducible rfl))
    refine hK.out _ _ trivial (fun hHeld => ?_)
    clear hK K
    refine norm_ (a' := ?_) ?_ ?_
    rotate_left
    · show Act.put _ (some 57) _ = _
      simp only [Act.put, List.setIfInBounds_toArray, List.set_cons_zero, List.set_cons_succ, i64_w, i32_w]
      rfl
    refine one_ (i := 5) (N := (some 59)) #[true, true, true, true, true, true, false] rfl rfl (by kernel_rfl) (by decide) (fun K hK => ?_)
    refine step_load (by rfl) 59 rfl 137 (.tmp 9) rfl ⟨BV, 0, none⟩ (.agg (nums .i64 (vt.set fN told)).toArray) rfl (run_loadVar_row _ BV 137 137 _ (0, 0) _ (X4.out.below (by repeat (first | exact HBW.out | apply below_drew | apply below_alloc | apply pw_below_drewN))) Try.underlying137 rfl (by rw [vA_size HL2.out]; exact ag_size)) ?_
    refine hK.out _ _ trivial (fun hHeld => ?_)
    clear hK K
    refine norm_ (a' := ?_) ?_ ?_
    rotate_left
    · show Act.put _ (some 59) _ = _
      simp only [Act.put, List.setIfInBounds_toArray, List.set_cons_zero, List.set_cons_succ, i64_w, i32_w]
      rfl
    refine one_ (i := 6) (N := none) #[true, true, true, true, true, true, true] rfl rfl (by kernel_rfl) (by decide) (fun K hK => ?_)
    refine step_mapUpdate (by rfl) rfl _ _ _ 61 rfl 3 137 (int_keyed Try.underlying3) Try.underlying61 R8 bm n D rfl (CM.out _ (below_step XB4.out (by repeat (first | exact HBW.out | apply below_drew | apply below_alloc | apply pw_below_drewN)))) (by have := HN.out; unfold maxLen; omega) _ _ (keyR r) rfl rfl (keyOf_int_mk Try.underlying3 HWF.out) (encV (vt.set fN told)) [] (R8_vA (vt.set fN told)) (fun w_ hown1 hgrow1 => ?_)
    refine hK.out _ _ trivial (fun hHeld => ?_)
    clear hK K
    refine done_ (by kernel_rfl) ?_
    have hfin := ag_put H.out (below_step XB4.out (by repeat (first | exact HBW.out | apply below_drew | apply below_alloc | apply pw_below_drewN))) hown1 hgrow1
    have HF := Aside0.mk hfin
    clear hown1 hgrow1 hfin r11 r11d
    go_wp2
    go_ret
    exact ⟨rfl, HF.out.1, HF.out.2.1, HF.out.2.2⟩
  · skip
    refine step_load (by rfl) 59 rfl 137 (.tmp 9) rfl ⟨BV, 0, none⟩ (.agg (nums .i64 (vt.set fN told)).toArray) rfl (run_loadVar_row _ BV 137 137 _ (0, 0) _ (X4.out.below (by repeat (first | exact HBW.out | apply below_drew | apply below_alloc | apply pw_below_drewN))) Try.underlying137 rfl (by rw [vA_size HL2.out]; exact ag_size)) ?_
    refine hK.out _ _ trivial (fun hHeld => ?_)
    clear hK K
    refine norm_ (a' := ?_) ?_ ?_
    rotate_left
    · show Act.put _ (some 59) _ = _
      simp only [Act.put, List.setIfInBounds_toArray, List.set_cons_zero, List.set_cons_succ, i64_w, i32_w]
      rfl
    refine one_ (i := 3) (N := (some 57)) #[true, true, true, true, true, true, false] rfl rfl (by kernel_rfl) (by decide) (fun K hK => ?_)
    refine value_ (by rfl) rfl (v := ?_) (w1 := ?_) ?_ ?_
    rotate_left 2
    · (go_simp; first | (with_reducible rfl) | (constructor <;> with_reducible rfl))
    refine hK.out _ _ trivial (fun hHeld => ?_)
    clear hK K
    refine norm_ (a' := ?_) ?_ ?_
    rotate_left
    · show Act.put _ (some 57) _ = _
      simp only [Act.put, List.setIfInBounds_toArray, List.set_cons_zero, List.set_cons_succ, i64_w, i32_w]
      rfl
    refine one_ (i := 6) (N := none) #[true, true, true, true, true, true, true] rfl rfl (by kernel_rfl) (by decide) (fun K hK => ?_)
    refine step_mapUpdate (by rfl) rfl _ _ _ 61 rfl 3 137 (int_keyed Try.underlying3) Try.underlying61 R8 bm n D rfl (CM.out _ (below_step XB4.out (by repeat (first | exact HBW.out | apply below_drew | apply below_alloc | apply pw_below_drewN)))) (by have := HN.out; unfold maxLen; omega) _ _ (keyR r) rfl rfl (keyOf_int_mk Try.underlying3 HWF.out) (encV (vt.set fN told)) [] (R8_vA (vt.set fN told)) (fun w_ hown1 hgrow1 => ?_)
    refine hK.out _ _ trivial (fun hHeld => ?_)
    clear hK K
    refine done_ (by kernel_rfl) ?_
    have hfin := ag_put H.out (below_step XB4.out (by repeat (first | exact HBW.out | apply below_drew | apply below_alloc | apply pw_below_drewN))) hown1 hgrow1
    have HF := Aside0.mk hfin
    clear hown1 hgrow1 hfin r11 r11d
    go_wp2
    go_ret
    exact ⟨rfl, HF.out.1, HF.out.2.1, HF.out.2.2⟩
end Go.Proofs.Ytbkchjiiaehhpaa.Obj
