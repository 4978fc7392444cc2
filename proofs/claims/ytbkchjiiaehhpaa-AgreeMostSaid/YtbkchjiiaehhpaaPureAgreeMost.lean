/- Proved: carillonlaw27.AgreeMost returns true: a round is committed just if the node itself was heard, and more than half of N and F told its view. Conditions: none. -/
import Derived.Test.YtbkchjiiaehhpaaPAgrMx4
import Derived.Test.YtbkchjiiaehhpaaX1Pure
import Derived.Test.YtbkchjiiaehhpaaXAgrG
namespace Go.Proofs.Ytbkchjiiaehhpaa.Pure
open Go.RowKit Go.Proofs.Ytbkchjiiaehhpaa.PAgrM Go.Proofs.YtbkchjiiaehhpaaW.PrintWords Go.Proofs.YtbkchjiiaehhpaaW.PrintLast Go.Proofs.YtbkchjiiaehhpaaW.PrintMore
set_option linter.unusedVariables false
set_option linter.unusedSimpArgs false
open Go.Proofs.Ytbkchjiiaehhpaa.Obj Go.Maps Go.WideMaps
theorem tells_step {w : World} {base A bm n : Nat} {c : List Int} {i last v : Int} {D : DataW Unit} (h : AG w base A c i bm n D last v) (r : Int) (vt : List Int) (hl : vt.length = 8) : Tells (D.put (keyR r) (encV vt)) r vt := tells_put h.2.2.2.2 r vt hl
/-- a config's box at B -/
def CF (W : World) (B : Nat) (c0 c1 c2 c3 c4 c5 c6 c7 c8 c9 : Int) : Prop := W.heap[B]? = some (.cells #[.int .i64 c0, .int .i64 c1, .int .i64 c2, .int .i64 c3, .int .i64 c4, .int .i64 c5, .int .i64 c6, .int .i64 c7, .int .i64 c8, .int .i64 c9] 60 (0, 0))
theorem CF.kept {W W' : World} {B : Nat} {c0 c1 c2 c3 c4 c5 c6 c7 c8 c9 : Int} (h : CF W B c0 c1 c2 c3 c4 c5 c6 c7 c8 c9) (hb : Below (B + 1) W W') : CF W' B c0 c1 c2 c3 c4 c5 c6 c7 c8 c9 := (hb.block B (Nat.lt_succ_self B)).trans h
theorem CF.at0 {W : World} {B : Nat} {c0 c1 c2 c3 c4 c5 c6 c7 c8 c9 : Int} (h : CF W B c0 c1 c2 c3 c4 c5 c6 c7 c8 c9) : W.cell? ⟨B, 0, none⟩ = some (.int .i64 c0) := (blk_cell h 0).trans rfl
theorem CF.at1 {W : World} {B : Nat} {c0 c1 c2 c3 c4 c5 c6 c7 c8 c9 : Int} (h : CF W B c0 c1 c2 c3 c4 c5 c6 c7 c8 c9) : W.cell? ⟨B, 1, none⟩ = some (.int .i64 c1) := (blk_cell h 1).trans rfl
theorem CF.at3 {W : World} {B : Nat} {c0 c1 c2 c3 c4 c5 c6 c7 c8 c9 : Int} (h : CF W B c0 c1 c2 c3 c4 c5 c6 c7 c8 c9) : W.cell? ⟨B, 3, none⟩ = some (.int .i64 c3) := (blk_cell h 3).trans rfl
def VT (k : Nat) (vt : List Int) : Prop := vt.length = 8 ∧ (∀ j, k ≤ j → j < 8 → vt.getD j 0 = -1) ∧ ∀ j, j < 8 → -1 ≤ vt.getD j 0 ∧ vt.getD j 0 ≤ 255
theorem nb_at (j : Nat) (hj : j < 8) : NB8.getD j 0 = -1 := by
  match j, hj with
  | 0, _ => rfl
  | 1, _ => rfl
  | 2, _ => rfl
  | 3, _ => rfl
  | 4, _ => rfl
  | 5, _ => rfl
  | 6, _ => rfl
  | 7, _ => rfl
theorem VT.start : VT 0 NB8 := ⟨rfl, fun j _ h => nb_at j h, fun j h => by rw [nb_at j h]; decide⟩
theorem set_at (vt : List Int) (k j : Nat) (x : Int) (hk : k < vt.length) : (vt.set k x).getD j 0 = if j = k then x else vt.getD j 0 := by
  by_cases h : j = k
  · subst h
    simp [List.getD_eq_getElem?_getD, hk]
  · rw [if_neg h]
    simp only [List.getD_eq_getElem?_getD]
    rw [List.getElem?_set_ne (fun e => h e.symm)]
theorem VT.step {k : Nat} {vt : List Int} (h : VT k vt) (x : Int) (hk : k < 8) (hx : 0 ≤ x ∧ x ≤ 255) : VT (k + 1) (vt.set k x) := by
  obtain ⟨h1, h2, h3⟩ := h
  refine ⟨by rw [List.length_set]; exact h1, fun j hj h8 => ?_, fun j h8 => ?_⟩
  · rw [set_at vt k j x (by omega), if_neg (by omega)]
    exact h2 j (by omega) h8
  · rw [set_at vt k j x (by omega)]
    have := h3 j h8
    split <;> omega
theorem VT.skip {k : Nat} {vt : List Int} (h : VT k vt) : VT (k + 1) vt := ⟨h.1, fun j hj h8 => h.2.1 j (by omega) h8, h.2.2⟩
section
variable (A base bm n : Nat) (c0 c1 c2 c3 c4 c5 c6 c7 c8 c9 v : Int) (iN : Nat) (D : DataW Unit) (q : Int) (vt : List Int) (w : World) (x : Int) (cn : Nat)
  (h : AG w base A [c0, c1, c2, c3, c4, c5, c6, c7, c8, c9] (iN : Int) bm n D (-1) v) (ht : Tells D (q + c3 + 1) vt) (hq : 0 ≤ q ∧ q < 65536) (hd : 1 ≤ c3 ∧ c3 ≤ 4) (hc0 : 1 ≤ c0 ∧ c0 ≤ 8) (hc1 : 0 ≤ c1 ∧ c1 ≤ 8) (hi8 : iN < 8) (hx : vt.getD iN 0 = x) (hcn : cntV vt x = cn)
theorem com_none (h : AG w base A [c0, c1, c2, c3, c4, c5, c6, c7, c8, c9] (iN : Int) bm n D (-1) v) (ht : Tells D (q + c3 + 1) vt) (hq : 0 ≤ q ∧ q < 65536) (hd : 1 ≤ c3 ∧ c3 ≤ 4) (hc0 : 1 ≤ c0 ∧ c0 ≤ 8) (hc1 : 0 ≤ c1 ∧ c1 ≤ 8) (hi8 : iN < 8) (hx : vt.getD iN 0 = -1) :
    Calls Try.prog 37 #[.pointer (some ⟨A, 0, none⟩), .int .i64 q] w fun e w' => e = .returned (.tuple #[.int .i64 0, .bool false, .int .i64 6]) ∧ Below w.heap.size w w' :=
  (ag_commit A base bm n _ _ v (-1) iN D q vt w h ht ⟨hq.1, by omega⟩ (by omega) ⟨by show 0 ≤ c3; omega, hd.2⟩ ⟨by show 0 ≤ c0; omega, hc0.2⟩ hc1 rfl hi8).mono fun e w' g => by
    rcases g with ⟨_, g2, g3⟩ | ⟨g1, _⟩ | ⟨g1, _⟩
    · exact ⟨g2, g3⟩
    · exact absurd hx g1
    · exact absurd hx g1
theorem com_few (h : AG w base A [c0, c1, c2, c3, c4, c5, c6, c7, c8, c9] (iN : Int) bm n D (-1) v) (ht : Tells D (q + c3 + 1) vt) (hq : 0 ≤ q ∧ q < 65536) (hd : 1 ≤ c3 ∧ c3 ≤ 4) (hc0 : 1 ≤ c0 ∧ c0 ≤ 8) (hc1 : 0 ≤ c1 ∧ c1 ≤ 8) (hi8 : iN < 8) (hx : vt.getD iN 0 = x) (hcn : cntV vt x = cn) (h0 : x ≠ -1) (hf : 2 * (cn : Int) ≤ c0 + c1) :
    Calls Try.prog 37 #[.pointer (some ⟨A, 0, none⟩), .int .i64 q] w fun e w' => e = .returned (.tuple #[.int .i64 x, .bool false, .int .i64 0]) ∧ Below w.heap.size w w' :=
  (ag_commit A base bm n _ _ v (-1) iN D q vt w h ht ⟨hq.1, by omega⟩ (by omega) ⟨by show 0 ≤ c3; omega, hd.2⟩ ⟨by show 0 ≤ c0; omega, hc0.2⟩ hc1 rfl hi8).mono fun e w' g => by
    rw [hx, hcn] at g
    rcases g with ⟨g1, _⟩ | ⟨_, _, g2, g3⟩ | ⟨_, g1, _⟩
    · exact absurd g1 h0
    · exact ⟨g2, g3⟩
    · have g1' : c0 + c1 < 2 * (cn : Int) := g1
      omega
theorem com_many (h : AG w base A [c0, c1, c2, c3, c4, c5, c6, c7, c8, c9] (iN : Int) bm n D (-1) v) (ht : Tells D (q + c3 + 1) vt) (hq : 0 ≤ q ∧ q < 65536) (hd : 1 ≤ c3 ∧ c3 ≤ 4) (hc0 : 1 ≤ c0 ∧ c0 ≤ 8) (hc1 : 0 ≤ c1 ∧ c1 ≤ 8) (hi8 : iN < 8) (hx : vt.getD iN 0 = x) (hcn : cntV vt x = cn) (h0 : x ≠ -1) (hf : ¬ 2 * (cn : Int) ≤ c0 + c1) :
    Calls Try.prog 37 #[.pointer (some ⟨A, 0, none⟩), .int .i64 q] w fun e w' => e = .returned (.tuple #[.int .i64 x, .bool true, .int .i64 0]) ∧ AG w' base A [c0, c1, c2, c3, c4, c5, c6, c7, c8, c9] (iN : Int) bm n D q x ∧ Below base w w' :=
  (ag_commit A base bm n _ _ v (-1) iN D q vt w h ht ⟨hq.1, by omega⟩ (by omega) ⟨by show 0 ≤ c3; omega, hd.2⟩ ⟨by show 0 ≤ c0; omega, hc0.2⟩ hc1 rfl hi8).mono fun e w' g => by
    rw [hx, hcn] at g
    rcases g with ⟨g1, _⟩ | ⟨_, g1, _⟩ | ⟨_, _, g2, g3, _, g4⟩
    · exact absurd g1 h0
    · have g1' : ¬ c0 + c1 < 2 * (cn : Int) := g1
      omega
    · exact ⟨g2, g3, g4⟩
end
theorem hear_c (A base bm n : Nat) (c0 c1 c2 c3 c4 c5 c6 c7 c8 c9 i last v : Int) (D : DataW Unit) (r told : Int) (fN : Nat) (vt : List Int) (w : World) (h : AG w base A [c0, c1, c2, c3, c4, c5, c6, c7, c8, c9] i bm n D last v) (ht : Tells D r vt) (hr : 0 ≤ r ∧ r < 1048576) (hf : (fN : Int) < c0) (hf8 : fN < 8) (htold : 0 ≤ told ∧ told ≤ 255) (hvt : vt.getD fN 0 = -1) (hn : n < 1000000) :
    Calls Try.prog 39 #[.pointer (some ⟨A, 0, none⟩), .int .i64 r, .int .i64 (fN : Int), .int .i64 told] w fun e w' => e = .returned (.int .i64 0) ∧ AG w' base A [c0, c1, c2, c3, c4, c5, c6, c7, c8, c9] i bm (n + 1) (D.put (keyR r) (encV (vt.set fN told))) last v ∧ Below base w w' :=
  (ag_hear A base bm n _ i v last D r told fN vt w h ht hr hf hf8 htold hvt hn).mono fun e w' q => ⟨q.1, q.2.1, q.2.2.2⟩
theorem ag_sz {w : World} {base A bm n : Nat} {c : List Int} {i last v : Int} {D : DataW Unit} (h : AG w base A c i bm n D last v) : base ≤ w.heap.size := by
  have := blk_lt h.2.2.2.1
  have := h.1
  omega
set_option maxHeartbeats 16000000 in
set_option maxRecDepth 100000 in
theorem most_main (K iN len2 : Nat) (c0 c1 c2 c3 c4 c5 c6 c7 c8 c9 a3 : Int) (A2 : Option Addr) (cap2 : Nat) (l2 : List Int) (w : World) (hc : sched_Check.f 10 c0 c1 c2 c3 c4 c5 c6 c7 c8 c9 = some 0) (hc0 : 1 ≤ c0 ∧ c0 ≤ 8) (hc1 : 0 ≤ c1 ∧ c1 ≤ 8) (hc3 : 1 ≤ c3 ∧ c3 ≤ 4) (hi : (iN : Int) < c0)
    (hr2 : Kd.C (Kd.int .u8) w A2 len2 l2) (hw2 : ∀ x ∈ l2, 0 ≤ x ∧ x < 256) (h3 : 0 ≤ a3 ∧ a3 < 65536) (hK0 : (K : Int) ≤ c0) (hK1 : K ≤ len2) (hlen : len2 ≤ 140737488351232) (hK : ¬ (K : Int) < c0 ∨ ((K : Int) < c0 ∧ ¬ (K : Int) < (len2 : Int))) :
    Calls Try.prog 11 #[.agg #[.int .i64 c0, .int .i64 c1, .int .i64 c2, .int .i64 c3, .int .i64 c4, .int .i64 c5, .int .i64 c6, .int .i64 c7, .int .i64 c8, .int .i64 c9], .int .i64 (iN : Int), .slice A2 len2 cap2, .int .u16 a3] w fun e w' => e = .returned (.bool true) ∧ Below w.heap.size w w' := by
  have hu2 := Try.underlying60
  have HC := Aside0.mk hc
  have HR := Aside0.mk hr2
  have HW := Aside0.mk hw2
  have HK := Aside0.mk hK
  have HN2 := Aside0.mk hr2.1
  have i3 : 0 ≤ a3 := h3.1
  have i4 : a3 < 65536 := h3.2
  have i5 : 1 ≤ c3 := hc3.1
  have i6 : c3 ≤ 4 := hc3.2
  have HI : Aside0 ((iN : Int) < c0 ∧ iN < 8 ∧ 0 ≤ (iN : Int)) := ⟨hi, by omega, by omega⟩
  have H0 := Aside0.mk hc0
  have H1 := Aside0.mk hc1
  have H3 := Aside0.mk hc3
  have HQ := Aside0.mk h3
  have HL := Aside0.mk hlen
  clear hc hr2 hw2 hK h3 hc3 hi
  go_enter Try.func11, Try.ntmps11
  go_wp2_with (first
    | ((with_reducible refine gate_dst (N := 24) rfl ?_); refine wpList_load_row rfl 60 (.tmp 4) rfl w.heap.size rfl 60 #[.int .i64 c0, .int .i64 c1, .int .i64 c2, .int .i64 c3, .int .i64 c4, .int .i64 c5, .int .i64 c6, .int .i64 c7, .int .i64 c8, .int .i64 c9] (0, 0) _ (heap_alloc_new _ _) Try.underlying60 rfl ag_csize ?_; simp only [Act.put, List.setIfInBounds_toArray, List.set_cons_zero, List.set_cons_succ])
    | (go_at_call 43; (with_reducible refine (ag_new c0 c1 c2 c3 c4 c5 c6 c7 c8 c9 _ _ HC.out HI.out.2.2 HI.out.1).mono ?_); rintro e w1 ⟨P, bm, rfl, hA, hb⟩; rw [World.size_alloc] at hA hb; have HA1 := Aside0.mk hA; have HF1 : Aside0 (CF w1 w.heap.size c0 c1 c2 c3 c4 c5 c6 c7 c8 c9) := ⟨CF.kept (heap_alloc_new w _) hb⟩; have HB1 := Aside0.mk (((Below.refl _ w).alloc (Nat.le_refl _) _).trans (b_cut' hb (Nat.le_succ _))); have q3 := HF1.out.at3; clear hA hb))
  go_loopw [12, 13] (fun v12 v13 wr => ∃ (k n : Nat) (D : DataW Unit) (vt : List Int) (x : Int), k ≤ K ∧ n ≤ k ∧ v13 = .int .i64 k ∧ v12 = .int .i64 x ∧ Aside0 (vt.getD iN 0 = x) ∧ Aside0 (AG wr (w.heap.size + 1) P [c0, c1, c2, c3, c4, c5, c6, c7, c8, c9] (iN : Int) bm n D (-1) 0) ∧ Aside0 (Tells D (a3 + c3 + 1) vt) ∧ Aside0 (VT k vt) ∧ Aside0 (CF wr w.heap.size c0 c1 c2 c3 c4 c5 c6 c7 c8 c9) ∧ Aside0 (Below w.heap.size w wr)) (fun _ v13 _ => K - (intOf v13).toNat)
  case atStart => exact ⟨0, 0, _, NB8, -1, Nat.zero_le _, Nat.zero_le _, rfl, rfl, ⟨nb_at iN HI.out.2.1⟩, HA1, ⟨tells_new _⟩, ⟨VT.start⟩, HF1, HB1⟩
  case round =>
    clear HA1 HF1 HB1
    obtain ⟨k, n, D, vt, x, hk, hnk, rfl, rfl, XX, XA, XT, XV, XF, XB⟩ := hrel
    have q0 := XF.out.at0
    by_cases hlt : k < K
    · obtain ⟨ad, rfl, hcc⟩ := (Kd.reads_of_C (enc := Value.int .u8) (d := (0 : Int)) (h1 := fun _ => rfl) HR.out).2.2 (by omega)
      have hx0 := hcc k (by omega)
      have hwb : 0 ≤ l2.getD k 0 ∧ l2.getD k 0 < 256 := by
        have hl := HN2.out
        exact HW.out _ (by rw [List.getD_eq_getElem?_getD, List.getElem?_eq_getElem (show k < l2.length by omega)]; exact List.getElem_mem _)
      obtain ⟨b, hb⟩ : ∃ b, l2.getD k 0 = b := ⟨_, rfl⟩
      rw [hb] at hx0 hwb
      have hb0 : 0 ≤ b := hwb.1
      have hb1 : b < 256 := hwb.2
      have C0 : Aside0 (∀ W, Below w.heap.size w W → W.cell? (ad.add k) = some (.int .u8 b)) := ⟨fun W hb => fl_low hx0 hb⟩
      have q1 := C0.out _ XB.out
      have i1 : (k : Int) < c0 := by omega
      have i2 : (k : Int) < (len2 : Int) := by omega
      have i7 : k < 8 := by have := H0.out; omega
      have hv : vt.getD k 0 = -1 := XV.out.2.1 k (Nat.le_refl _) i7
      have HV := Aside0.mk hv
      clear hcc hx0 hwb hb hv
      by_cases hbig : 200 ≤ b
      · go_wp2
        refine ⟨⟨k + 1, n, D, vt, x, hlt, by omega, by simp, rfl, XX, XA, XT, ⟨XV.out.skip⟩, XF, XB⟩, ?_⟩
        simp [intOf]
        omega
      · have hb4 : 0 ≤ b % 4 ∧ b % 4 ≤ 255 := by omega
        have HB4 := Aside0.mk hb4
        clear hb4
        by_cases hki : k = iN
        · subst hki
          go_wp2_with (go_at_call 39; (with_reducible refine (hear_c P _ bm n _ _ _ _ _ _ _ _ _ _ _ (-1) 0 D _ _ k vt _ XA.out XT.out ⟨by omega, by omega⟩ i1 i7 HB4.out HV.out (by omega)).mono ?_); rintro e w5 ⟨rfl, hA, hb⟩; have HA5 := Aside0.mk hA; have HF5 := Aside0.mk (XF.out.kept hb); have HB5 := Aside0.mk (XB.out.trans (b_cut' hb (Nat.le_succ _))); have q5 := C0.out _ HB5.out; clear hA hb q1)
          refine ⟨⟨k + 1, n + 1, _, vt.set k (b % 4), b % 4, hlt, by omega, by simp, rfl, ⟨by rw [set_at vt k k _ (by have := XV.out.1; omega), if_pos rfl]⟩, HA5, ⟨tells_step XA.out (a3 + c3 + 1) (vt.set k (b % 4)) (by rw [List.length_set]; exact XV.out.1)⟩, ⟨XV.out.step (b % 4) i7 HB4.out⟩, HF5, HB5⟩, ?_⟩
          simp [intOf]
          omega
        · have hki1 : ¬ (k : Int) = (iN : Int) := by omega
          go_wp2_with (go_at_call 39; (with_reducible refine (hear_c P _ bm n _ _ _ _ _ _ _ _ _ _ (iN : Int) (-1) 0 D _ _ k vt _ XA.out XT.out ⟨by omega, by omega⟩ i1 i7 HB4.out HV.out (by omega)).mono ?_); rintro e w5 ⟨rfl, hA, hb⟩; have HA5 := Aside0.mk hA; have HF5 := Aside0.mk (XF.out.kept hb); have HB5 := Aside0.mk (XB.out.trans (b_cut' hb (Nat.le_succ _))); have q5 := C0.out _ HB5.out; clear hA hb q1)
          refine ⟨⟨k + 1, n + 1, _, vt.set k (b % 4), x, hlt, by omega, by simp, rfl, ⟨by rw [set_at vt k iN _ (by have := XV.out.1; omega), if_neg (fun e => hki e.symm)]; exact XX.out⟩, HA5, ⟨tells_step XA.out (a3 + c3 + 1) (vt.set k (b % 4)) (by rw [List.length_set]; exact XV.out.1)⟩, ⟨XV.out.step (b % 4) i7 HB4.out⟩, HF5, HB5⟩, ?_⟩
          simp [intOf]
          omega
    · obtain rfl : k = K := by omega
      have hkk := HK.out
      have hxr := XV.out.2.2 iN HI.out.2.1
      rw [XX.out] at hxr
      obtain ⟨cn, hcn⟩ : ∃ cn, cntV vt x = cn := ⟨_, rfl⟩
      have hcl := cntV_le vt x
      rw [hcn, XV.out.1] at hcl
      have HCN := Aside0.mk hcn
      have HR0 := Aside0.mk hc0
      have HR1 := Aside0.mk hc1
      clear hcn hc0 hc1
      by_cases hneg : x = -1
      · subst hneg
        rcases hkk with i1 | ⟨i1, i2⟩
        all_goals
          clear HK hxr
          go_wp2_with (first
            | (go_at_call 37; (with_reducible refine (com_none P _ bm n _ _ _ _ _ _ _ _ _ _ 0 iN D _ vt _ XA.out XT.out HQ.out H3.out HR0.out HR1.out HI.out.2.1 XX.out).mono ?_); rintro e w5 ⟨rfl, hb⟩; have HB5 := Aside0.mk (below_step XB.out hb); clear hb)
            | (go_at_call 44; (with_reducible refine (ag_awake _).mono ?_); rintro e w8 ⟨rfl, hb⟩; have HB8 := Aside0.mk (below_step HB5.out hb); clear hb))
          go_ret
          exact ⟨rfl, HB8.out⟩
      · have hx0 : 0 ≤ x := by omega
        have hx1 : x ≤ 255 := hxr.2
        have hq01 : 1 ≤ c0 := HR0.out.1
        have hq02 : c0 ≤ 8 := HR0.out.2
        have hq11 : 0 ≤ c1 := HR1.out.1
        have hq12 : c1 ≤ 8 := HR1.out.2
        by_cases hfew : 2 * (cn : Int) ≤ c0 + c1
        · have HN := Aside0.mk hneg
          have HF := Aside0.mk hfew
          rcases hkk with i1 | ⟨i1, i2⟩
          all_goals
            clear HK hxr hneg
            go_wp2_with (first
              | (go_at_call 37; (with_reducible refine (com_few P _ bm n _ _ _ _ _ _ _ _ _ _ 0 iN D _ vt _ x cn XA7.out XT.out HQ.out H3.out HR0.out HR1.out HI.out.2.1 XX.out HCN.out HN.out HF.out).mono ?_); rintro e w8 ⟨rfl, hb⟩; have HB8 := Aside0.mk (below_step HB7.out hb); have q8 := (XF7.out.kept (b_cut' hb (ag_sz XA7.out))).at0; have q9 := (XF7.out.kept (b_cut' hb (ag_sz XA7.out))).at1; clear hb)
              | (go_at_call 37; (with_reducible refine (com_few P _ bm n _ _ _ _ _ _ _ _ _ _ 0 iN D _ vt _ x cn XA.out XT.out HQ.out H3.out HR0.out HR1.out HI.out.2.1 XX.out HCN.out HN.out HF.out).mono ?_); rintro e w5 ⟨rfl, hb⟩; have HB5 := Aside0.mk (below_step XB.out hb); have XF5 := Aside0.mk (XF.out.kept (b_cut' hb (ag_sz XA.out))); have XA5 := Aside0.mk (XA.out.below hb); clear hb q0)
              | (go_at_call 41; (with_reducible refine (ag_votes P _ bm n _ _ (-1) 0 D _ vt x _ XA5.out XT.out ⟨by omega, by omega⟩).mono ?_); rintro e w6 ⟨rfl, hb⟩; rw [HCN.out]; have HB6 := Aside0.mk (below_step HB5.out hb); have XF6 := Aside0.mk (XF5.out.kept (b_cut' hb (ag_sz XA5.out))); have XA6 := Aside0.mk (XA5.out.below hb); clear hb)
              | (go_at_call 38; (with_reducible refine (ag_last P _ bm n _ _ (-1) 0 D _ XA6.out).mono ?_); rintro e w7 ⟨rfl, hb⟩; have HB7 := Aside0.mk (below_step HB6.out hb); have XF7 := Aside0.mk (XF6.out.kept (b_cut' hb (ag_sz XA6.out))); have XA7 := Aside0.mk (XA6.out.below hb); clear hb)
              | (go_at_call 44; (with_reducible refine (ag_awake _).mono ?_); rintro e w9 ⟨rfl, hb⟩; have HB9 := Aside0.mk (below_step HB8.out hb); clear hb))
            go_ret
            exact ⟨rfl, HB9.out⟩
        · have HN := Aside0.mk hneg
          have HF := Aside0.mk hfew
          rcases hkk with i1 | ⟨i1, i2⟩
          all_goals
            clear HK hxr hneg
            go_wp2_with (first
              | (go_at_call 37; (with_reducible refine (ag_commit_old P _ bm n _ _ x a3 D _ _ XA7.out ⟨HQ.out.1, by have := HQ.out.2; omega⟩ (Int.le_refl _)).mono ?_); rintro e w8 ⟨rfl, rfl⟩; have HB8 := HB7; have q8 := XF7.out.at0; have q9 := XF7.out.at1)
              | (go_at_call 37; (with_reducible refine (com_many P _ bm n _ _ _ _ _ _ _ _ _ _ 0 iN D _ vt _ x cn XA7.out XT.out HQ.out H3.out HR0.out HR1.out HI.out.2.1 XX.out HCN.out HN.out HF.out).mono ?_); rintro e w8 ⟨rfl, hb⟩; have HB8 := Aside0.mk (below_step HB7.out hb); have q8 := (XF7.out.kept (b_cut' hb (ag_sz XA7.out))).at0; have q9 := (XF7.out.kept (b_cut' hb (ag_sz XA7.out))).at1; clear hb)
              | (go_at_call 37; (with_reducible refine (com_many P _ bm n _ _ _ _ _ _ _ _ _ _ 0 iN D _ vt _ x cn XA.out XT.out HQ.out H3.out HR0.out HR1.out HI.out.2.1 XX.out HCN.out HN.out HF.out).mono ?_); rintro e w5 ⟨rfl, hA, hb⟩; have HB5 := Aside0.mk (XB.out.trans (b_cut' hb (Nat.le_succ _))); have XF5 := Aside0.mk (XF.out.kept hb); have XA5 := Aside0.mk hA; clear hA hb q0)
              | (go_at_call 41; (with_reducible refine (ag_votes P _ bm n _ _ a3 x D _ vt x _ XA5.out XT.out ⟨by omega, by omega⟩).mono ?_); rintro e w6 ⟨rfl, hb⟩; rw [HCN.out]; have HB6 := Aside0.mk (below_step HB5.out hb); have XF6 := Aside0.mk (XF5.out.kept (b_cut' hb (ag_sz XA5.out))); have XA6 := Aside0.mk (XA5.out.below hb); clear hb)
              | (go_at_call 38; (with_reducible refine (ag_last P _ bm n _ _ a3 x D _ XA6.out).mono ?_); rintro e w7 ⟨rfl, hb⟩; have HB7 := Aside0.mk (below_step HB6.out hb); have XF7 := Aside0.mk (XF6.out.kept (b_cut' hb (ag_sz XA6.out))); have XA7 := Aside0.mk (XA6.out.below hb); clear hb)
              | (go_at_call 44; (with_reducible refine (ag_awake _).mono ?_); rintro e w9 ⟨rfl, hb⟩; have HB9 := Aside0.mk (below_step HB8.out hb); clear hb))
            go_ret
            exact ⟨rfl, HB9.out⟩
set_option maxHeartbeats 8000000 in
set_option maxRecDepth 100000 in
theorem most_no (r : Int) (c0 c1 c2 c3 c4 c5 c6 c7 c8 c9 a1 a3 : Int) (A2 : Option Addr) (len2 cap2 : Nat) (w : World) (hc : sched_Check.f 10 c0 c1 c2 c3 c4 c5 c6 c7 c8 c9 = some r) (h : r = 1 ∨ (r = 0 ∧ (a1 < 0 ∨ c0 ≤ a1))) :
    Calls Try.prog 11 #[.agg #[.int .i64 c0, .int .i64 c1, .int .i64 c2, .int .i64 c3, .int .i64 c4, .int .i64 c5, .int .i64 c6, .int .i64 c7, .int .i64 c8, .int .i64 c9], .int .i64 a1, .slice A2 len2 cap2, .int .u16 a3] w fun e w' => e = .returned (.bool true) ∧ Below w.heap.size w w' := by
  have HC := Aside0.mk hc
  have HH := Aside0.mk h
  clear hc h
  go_enter Try.func11, Try.ntmps11
  go_wp2_with (first
    | ((with_reducible refine gate_dst (N := 24) rfl ?_); refine wpList_load_row rfl 60 (.tmp 4) rfl w.heap.size rfl 60 #[.int .i64 c0, .int .i64 c1, .int .i64 c2, .int .i64 c3, .int .i64 c4, .int .i64 c5, .int .i64 c6, .int .i64 c7, .int .i64 c8, .int .i64 c9] (0, 0) _ (heap_alloc_new _ _) Try.underlying60 rfl ag_csize ?_; simp only [Act.put, List.setIfInBounds_toArray, List.set_cons_zero, List.set_cons_succ])
    | (go_at_call 43; (with_reducible refine (ag_new_no c0 c1 c2 c3 c4 c5 c6 c7 c8 c9 _ r _ HC.out HH.out).mono ?_); rintro e w1 ⟨rfl, hb⟩; have HB1 := Aside0.mk (below_step ((Below.refl _ w).alloc (Nat.le_refl _) _) hb); clear hb)
    | (go_at_call 44; (with_reducible refine (ag_awake _).mono ?_); rintro e w8 ⟨rfl, hb⟩; have HB8 := Aside0.mk (below_step HB1.out hb); clear hb))
  go_ret
  exact ⟨rfl, HB8.out⟩
theorem AgreeMost : carillonlaw27_AgreeMost.Pure := by
  intro a0 a1 A2 cap2 l2 a3 w w0 w1 hr2 hc2 hm2 y2 hw2 w3
  obtain ⟨hl, _⟩ := w0
  match a0, hl with
  | [c0, c1, c2, c3, c4, c5, c6, c7, c8, c9], _ =>
    show Calls Try.prog 11 #[.agg #[.int .i64 c0, .int .i64 c1, .int .i64 c2, .int .i64 c3, .int .i64 c4, .int .i64 c5, .int .i64 c6, .int .i64 c7, .int .i64 c8, .int .i64 c9], .int .i64 a1, .slice A2 l2.length cap2, .int .u16 a3] w fun e w' => e = .returned (.bool true) ∧ Below w.heap.size w w'
    obtain ⟨len2, hlen⟩ : ∃ n, l2.length = n := ⟨_, rfl⟩
    rw [hlen] at hr2 hc2 hm2 y2 ⊢
    have h3 : 0 ≤ a3 ∧ a3 < 65536 := by
      have q1 := w3
      simp only [Lit.wf, Bool.and_eq_true, decide_eq_true_eq, show IntKind.u16.min = 0 from rfl, show IntKind.u16.max = 65535 from rfl] at q1
      omega
    have hB : ∀ x ∈ l2, 0 ≤ x ∧ x < 256 := fun x hx => by
      have q := hw2 x hx
      simp only [Lit.wf, Bool.and_eq_true, decide_eq_true_eq, show IntKind.u8.min = 0 from rfl, show IntKind.u8.max = 255 from rfl] at q
      omega
    obtain ⟨r, hr, hcase⟩ := check_is c0 c1 c2 c3 c4 c5 c6 c7 c8 c9
    rcases hcase with h1 | ⟨h0, hA, hB2, hD⟩
    · exact most_no r _ _ _ _ _ _ _ _ _ _ _ _ _ _ _ _ hr (.inl h1)
    · by_cases hbad : a1 < 0 ∨ c0 ≤ a1
      · exact most_no r _ _ _ _ _ _ _ _ _ _ _ _ _ _ _ _ hr (.inr ⟨h0, hbad⟩)
      · obtain ⟨iN, rfl⟩ : ∃ iN : Nat, a1 = (iN : Int) := ⟨a1.toNat, by omega⟩
        rw [h0] at hr
        refine most_main (min c0.toNat len2) iN len2 c0 c1 c2 c3 c4 c5 c6 c7 c8 c9 a3 A2 cap2 l2 w hr hA ⟨hB2.1, hB2.2.1⟩ hD (by omega) hr2 hB h3 (by omega) (by omega) (by omega) ?_
        by_cases hh : c0.toNat ≤ len2
        · rw [Nat.min_eq_left hh]; left; omega
        · rw [Nat.min_eq_right (by omega)]; right; omega
end Go.Proofs.Ytbkchjiiaehhpaa.Pure
