/- Proved: carillonlaw27.AgreeSame returns true: two nodes that hear the same but of at most F nodes, and both commit a round, commit the same view. Conditions: none. -/
import Derived.Test.YtbkchjiiaehhpaaPAgrMx4
import Derived.Test.YtbkchjiiaehhpaaX1Pure
import Derived.Test.YtbkchjiiaehhpaaXAgrG
namespace Go.Proofs.Ytbkchjiiaehhpaa.Pure
open Go.RowKit Go.Proofs.Ytbkchjiiaehhpaa.PAgrM Go.Proofs.YtbkchjiiaehhpaaW.PrintWords Go.Proofs.YtbkchjiiaehhpaaW.PrintLast Go.Proofs.YtbkchjiiaehhpaaW.PrintMore
set_option linter.unusedVariables false
set_option linter.unusedSimpArgs false
open Go.Proofs.Ytbkchjiiaehhpaa.Obj Go.Maps Go.WideMaps
theorem tells_step {w : World} {base A bm n : Nat} {c : List Int} {i last v : Int} {D : DataW Unit} (h : AG w base A c i bm n D last v) (r : Int) (vt : List Int) (hl : vt.length = 8) : Tells (D.put (keyR r) (encV vt)) r vt := tells_put h.2.2.2.2 r vt hl
def CF (W : World) (B : Nat) (c0 c1 c2 c3 c4 c5 c6 c7 c8 c9 : Int) : Prop := W.heap[B]? = some (.cells #[.int .i64 c0, .int .i64 c1, .int .i64 c2, .int .i64 c3, .int .i64 c4, .int .i64 c5, .int .i64 c6, .int .i64 c7, .int .i64 c8, .int .i64 c9] 60 (0, 0))
theorem CF.kept {W W' : World} {B : Nat} {c0 c1 c2 c3 c4 c5 c6 c7 c8 c9 : Int} (h : CF W B c0 c1 c2 c3 c4 c5 c6 c7 c8 c9) (hb : Below (B + 1) W W') : CF W' B c0 c1 c2 c3 c4 c5 c6 c7 c8 c9 := (hb.block B (Nat.lt_succ_self B)).trans h
theorem CF.at0 {W : World} {B : Nat} {c0 c1 c2 c3 c4 c5 c6 c7 c8 c9 : Int} (h : CF W B c0 c1 c2 c3 c4 c5 c6 c7 c8 c9) : W.cell? ⟨B, 0, none⟩ = some (.int .i64 c0) := (blk_cell h 0).trans rfl
theorem CF.at1 {W : World} {B : Nat} {c0 c1 c2 c3 c4 c5 c6 c7 c8 c9 : Int} (h : CF W B c0 c1 c2 c3 c4 c5 c6 c7 c8 c9) : W.cell? ⟨B, 1, none⟩ = some (.int .i64 c1) := (blk_cell h 1).trans rfl
theorem CF.at3 {W : World} {B : Nat} {c0 c1 c2 c3 c4 c5 c6 c7 c8 c9 : Int} (h : CF W B c0 c1 c2 c3 c4 c5 c6 c7 c8 c9) : W.cell? ⟨B, 3, none⟩ = some (.int .i64 c3) := (blk_cell h 3).trans rfl
def VT (k : Nat) (vt : List Int) : Prop := vt.length = 8 ∧ (∀ j, k ≤ j → j < 8 → vt.getD j 0 = -1)
theorem nb_at (j : Nat) (hj : j < 8) : NB8.getD j 0 = -1 := by
  match j, hj with
  | 0, _ => rfl
  | 1, _ => rfl
  | 2, _ => rfl
  | 3, _ => rfl
  | 4, _ => rfl
  | 5, _ => rfl
  | 6, _ => rfl
  | 7, _ => rfl
theorem VT.start : VT 0 NB8 := ⟨rfl, fun j _ h => nb_at j h⟩
theorem set_at (vt : List Int) (k j : Nat) (x : Int) (hk : k < vt.length) : (vt.set k x).getD j 0 = if j = k then x else vt.getD j 0 := by
  by_cases h : j = k
  · subst h
    simp [List.getD_eq_getElem?_getD, hk]
  · rw [if_neg h]
    simp only [List.getD_eq_getElem?_getD]
    rw [List.getElem?_set_ne (fun e => h e.symm)]
theorem VT.step {k : Nat} {vt : List Int} (h : VT k vt) (x : Int) (hk : k < 8) : VT (k + 1) (vt.set k x) := by
  obtain ⟨h1, h2⟩ := h
  refine ⟨by rw [List.length_set]; exact h1, fun j hj h8 => ?_⟩
  rw [set_at vt k j x (by omega), if_neg (by omega)]
  exact h2 j (by omega) h8
theorem VT.skip {k : Nat} {vt : List Int} (h : VT k vt) : VT (k + 1) vt := ⟨h.1, fun j hj h8 => h.2 j (by omega) h8⟩
def hd : List Int → List Int → Nat
  | x :: a, y :: b => (if x = -1 ∧ y = -1 then 0 else 1) + hd a b
  | _, _ => 0
def dn : List Int → List Int → Nat
  | x :: a, y :: b => (if x ≠ -1 ∧ y ≠ -1 ∧ x ≠ y then 1 else 0) + dn a b
  | _, _ => 0
theorem hd_set : ∀ (a b : List Int) (k : Nat) (u v : Int), hd (a.set k u) (b.set k v) ≤ hd a b + 1
  | [], _, _, _, _ => by simp [hd]
  | _ :: _, [], _, _, _ => by simp [hd]
  | x :: a, y :: b, 0, u, v => by
    simp only [List.set_cons_zero, hd]
    split <;> split <;> omega
  | x :: a, y :: b, k + 1, u, v => by
    have := hd_set a b k u v
    simp only [List.set_cons_succ, hd]
    omega
theorem dn_set : ∀ (a b : List Int) (k : Nat) (u v : Int), dn (a.set k u) (b.set k v) ≤ dn a b + 1
  | [], _, _, _, _ => by simp [dn]
  | _ :: _, [], _, _, _ => by simp [dn]
  | x :: a, y :: b, 0, u, v => by
    simp only [List.set_cons_zero, dn]
    split <;> split <;> omega
  | x :: a, y :: b, k + 1, u, v => by
    have := dn_set a b k u v
    simp only [List.set_cons_succ, dn]
    omega
theorem dn_eq : ∀ (a b : List Int) (k : Nat) (u v : Int), (u = -1 ∨ v = -1 ∨ u = v) → dn (a.set k u) (b.set k v) ≤ dn a b
  | [], _, _, _, _, _ => by simp [dn]
  | _ :: _, [], _, _, _, _ => by simp [dn]
  | x :: a, y :: b, 0, u, v, h => by
    simp only [List.set_cons_zero, dn]
    rw [if_neg (by omega)]
    omega
  | x :: a, y :: b, k + 1, u, v, h => by
    have := dn_eq a b k u v h
    simp only [List.set_cons_succ, dn]
    omega
theorem cntV_cons (z : Int) (a : List Int) (x : Int) : cntV (z :: a) x = (if z = x ∧ z ≠ -1 then 1 else 0) + cntV a x := by
  unfold cntV
  by_cases h : z = x ∧ z ≠ -1
  · rw [if_pos h, List.filter_cons_of_pos (by have h1 := h.1; have h2 := h.2; subst h1; simp [h2]), List.length_cons]
    omega
  · rw [if_neg h, List.filter_cons_of_neg (by simpa using h)]
    omega
theorem cnt_sum : ∀ (a b : List Int) (x y : Int), a.length = b.length → x ≠ y → cntV a x + cntV b y ≤ hd a b + dn a b
  | [], [], _, _, _, _ => by simp [cntV]
  | _ :: _, [], _, _, h, _ => by cases h
  | [], _ :: _, _, _, h, _ => by cases h
  | p :: a, q :: b, x, y, h, hne => by
    have ih := cnt_sum a b x y (by simpa using h) hne
    rw [cntV_cons, cntV_cons]
    simp only [hd, dn]
    by_cases h1 : p = x ∧ p ≠ -1 <;> by_cases h2 : q = y ∧ q ≠ -1
    · rw [if_pos h1, if_pos h2, if_neg (fun e => h1.2 e.1), if_pos ⟨h1.2, h2.2, by rw [h1.1, h2.1]; exact hne⟩]
      omega
    · rw [if_pos h1, if_neg h2, if_neg (fun e => h1.2 e.1)]
      omega
    · rw [if_neg h1, if_pos h2, if_neg (fun e => h2.2 e.2)]
      omega
    · rw [if_neg h1, if_neg h2]
      omega
theorem set_same (vt : List Int) (k : Nat) (hk : k < vt.length) (h : vt.getD k 0 = -1) : vt.set k (-1) = vt := by
  rw [List.getD_eq_getElem?_getD, List.getElem?_eq_getElem hk] at h
  have h' : vt[k] = -1 := h
  rw [← h']
  exact List.set_getElem_self hk
def PQ (k n : Nat) (a b : List Int) : Prop := VT k a ∧ VT k b ∧ hd a b ≤ k ∧ dn a b ≤ n
theorem PQ.start : PQ 0 0 NB8 NB8 := ⟨VT.start, VT.start, by decide, by decide⟩
theorem PQ.at1 {k n : Nat} {a b : List Int} (h : PQ k n a b) (hk : k < 8) : a.getD k 0 = -1 := h.1.2 k (Nat.le_refl _) hk
theorem PQ.at2 {k n : Nat} {a b : List Int} (h : PQ k n a b) (hk : k < 8) : b.getD k 0 = -1 := h.2.1.2 k (Nat.le_refl _) hk
theorem PQ.len1 {k n : Nat} {a b : List Int} (h : PQ k n a b) (u : Int) : (a.set k u).length = 8 := by rw [List.length_set]; exact h.1.1
theorem PQ.len2 {k n : Nat} {a b : List Int} (h : PQ k n a b) (u : Int) : (b.set k u).length = 8 := by rw [List.length_set]; exact h.2.1.1
theorem PQ.two {k n : Nat} {a b : List Int} (h : PQ k n a b) (hk : k < 8) (u v : Int) (hq : u = -1 ∨ v = -1 ∨ u = v) : PQ (k + 1) n (a.set k u) (b.set k v) := by
  have := hd_set a b k u v
  have := dn_eq a b k u v hq
  obtain ⟨h1, h2, h3, h4⟩ := h
  exact ⟨h1.step u hk, h2.step v hk, by omega, by omega⟩
theorem PQ.same {k n : Nat} {a b : List Int} (h : PQ k n a b) (hk : k < 8) (u : Int) : PQ (k + 1) n (a.set k u) (b.set k u) := h.two hk u u (.inr (.inr rfl))
theorem PQ.other {k n : Nat} {a b : List Int} (h : PQ k n a b) (hk : k < 8) (u v : Int) : PQ (k + 1) (n + 1) (a.set k u) (b.set k v) := by
  have := hd_set a b k u v
  have := dn_set a b k u v
  obtain ⟨h1, h2, h3, h4⟩ := h
  exact ⟨h1.step u hk, h2.step v hk, by omega, by omega⟩
theorem PQ.left {k n : Nat} {a b : List Int} (h : PQ k n a b) (hk : k < 8) (u : Int) : PQ (k + 1) n (a.set k u) b := by
  have q := h.two hk u (-1) (.inr (.inl rfl))
  rwa [set_same b k (by have := h.2.1.1; omega) (h.at2 hk)] at q
theorem PQ.right {k n : Nat} {a b : List Int} (h : PQ k n a b) (hk : k < 8) (v : Int) : PQ (k + 1) n a (b.set k v) := by
  have q := h.two hk (-1) v (.inl rfl)
  rwa [set_same a k (by have := h.1.1; omega) (h.at1 hk)] at q
theorem PQ.skip {k n : Nat} {a b : List Int} (h : PQ k n a b) : PQ (k + 1) n a b := ⟨h.1.skip, h.2.1.skip, by have := h.2.2.1; omega, h.2.2.2⟩
theorem PQ.skip1 {k n : Nat} {a b : List Int} (h : PQ k n a b) : PQ (k + 1) (n + 1) a b := ⟨h.1.skip, h.2.1.skip, by have := h.2.2.1; omega, by have := h.2.2.2; omega⟩
theorem pq_end {K n : Nat} {a b : List Int} {c0 c1 x y : Int} (h : PQ K n a b) (hK : (K : Int) ≤ c0) (hn : (n : Int) ≤ c1) (hx : c0 + c1 < 2 * (cntV a x : Int)) (hy : c0 + c1 < 2 * (cntV b y : Int)) : x = y := by
  by_cases e : x = y
  · exact e
  · have q := cnt_sum a b x y (by rw [h.1.1, h.2.1.1]) e
    have := h.2.2.1
    have := h.2.2.2
    omega
/-- two nodes -/
def TW (W : World) (base : Nat) (c : List Int) (P1 : Nat) (i1 : Int) (bm1 n1 : Nat) (D1 : DataW Unit) (l1 v1 : Int) (P2 : Nat) (i2 : Int) (bm2 n2 : Nat) (D2 : DataW Unit) (l2 v2 : Int) : Prop :=
  AG W base P1 c i1 bm1 n1 D1 l1 v1 ∧ AG W base P2 c i2 bm2 n2 D2 l2 v2 ∧ P1 ≠ P2 ∧ P1 ≠ bm2 ∧ P2 ≠ bm1 ∧ bm1 ≠ bm2
section
variable {W W' : World} {base : Nat} {c : List Int} {P1 bm1 n1 P2 bm2 n2 : Nat} {i1 l1 v1 i2 l2 v2 : Int} {D1 D2 : DataW Unit}
theorem TW.one (h : TW W base c P1 i1 bm1 n1 D1 l1 v1 P2 i2 bm2 n2 D2 l2 v2) : AG W base P1 c i1 bm1 n1 D1 l1 v1 := h.1
theorem TW.two (h : TW W base c P1 i1 bm1 n1 D1 l1 v1 P2 i2 bm2 n2 D2 l2 v2) : AG W base P2 c i2 bm2 n2 D2 l2 v2 := h.2.1
theorem TW.flip (h : TW W base c P1 i1 bm1 n1 D1 l1 v1 P2 i2 bm2 n2 D2 l2 v2) : TW W base c P2 i2 bm2 n2 D2 l2 v2 P1 i1 bm1 n1 D1 l1 v1 := ⟨h.2.1, h.1, h.2.2.1.symm, h.2.2.2.2.1, h.2.2.2.1, h.2.2.2.2.2.symm⟩
theorem TW.below (h : TW W base c P1 i1 bm1 n1 D1 l1 v1 P2 i2 bm2 n2 D2 l2 v2) (hb : Below W.heap.size W W') : TW W' base c P1 i1 bm1 n1 D1 l1 v1 P2 i2 bm2 n2 D2 l2 v2 := ⟨h.1.below hb, h.2.1.below hb, h.2.2⟩
theorem TW.size (h : TW W base c P1 i1 bm1 n1 D1 l1 v1 P2 i2 bm2 n2 D2 l2 v2) : base ≤ W.heap.size := by
  have := blk_lt h.1.2.2.2.1
  have := h.1.1
  omega
end
theorem tw_make {W W' : World} {base : Nat} {c : List Int} {P1 bm1 n1 P2 bm2 n2 : Nat} {i1 l1 v1 i2 l2 v2 : Int} {D1 D2 : DataW Unit} (h : AG W base P1 c i1 bm1 n1 D1 l1 v1) (hm : bm1 < W.heap.size) (k : AG W' W.heap.size P2 c i2 bm2 n2 D2 l2 v2) (hb : Below W.heap.size W W') : TW W' base c P1 i1 bm1 n1 D1 l1 v1 P2 i2 bm2 n2 D2 l2 v2 := by
  have hP := blk_lt h.2.2.2.1
  have hB := h.1
  obtain ⟨k1, k2, k3⟩ := k
  exact ⟨h.below hb, ⟨by omega, by omega, k3⟩, by omega, by omega, by omega, by omega⟩
section
variable (base : Nat) (c0 c1 c2 c3 c4 c5 c6 c7 c8 c9 : Int) (P1 bm1 n1 P2 bm2 n2 : Nat) (i1 l1 v1 i2 l2 v2 : Int) (D1 D2 : DataW Unit) (r told : Int) (fN : Nat) (vt : List Int) (w : World)
theorem hear_1 (h : TW w base [c0, c1, c2, c3, c4, c5, c6, c7, c8, c9] P1 i1 bm1 n1 D1 l1 v1 P2 i2 bm2 n2 D2 l2 v2) (ht : Tells D1 r vt) (hr : 0 ≤ r ∧ r < 1048576) (hf : (fN : Int) < c0) (hf8 : fN < 8) (htold : 0 ≤ told ∧ told ≤ 255) (hvt : vt.getD fN 0 = -1) (hn : n1 < 1000000) :
    Calls Try.prog 39 #[.pointer (some ⟨P1, 0, none⟩), .int .i64 r, .int .i64 (fN : Int), .int .i64 told] w fun e w' => e = .returned (.int .i64 0) ∧ TW w' base [c0, c1, c2, c3, c4, c5, c6, c7, c8, c9] P1 i1 bm1 (n1 + 1) (D1.put (keyR r) (encV (vt.set fN told))) l1 v1 P2 i2 bm2 n2 D2 l2 v2 ∧ Below base w w' :=
  (ag_hear P1 base bm1 n1 _ i1 v1 l1 D1 r told fN vt w h.1 ht hr hf hf8 htold hvt hn).mono fun e w' q => ⟨q.1, ⟨q.2.1, h.2.1.kept q.2.2.1 h.2.2.2.2.1 (fun e => h.2.2.2.2.2 e.symm), h.2.2⟩, q.2.2.2⟩
theorem com_1 (iN : Nat) (h : TW w base [c0, c1, c2, c3, c4, c5, c6, c7, c8, c9] P1 (iN : Int) bm1 n1 D1 (-1) v1 P2 i2 bm2 n2 D2 l2 v2) (q : Int) (ht : Tells D1 (q + c3 + 1) vt) (hq : 0 ≤ q ∧ q < 65536) (hd : 1 ≤ c3 ∧ c3 ≤ 4) (hc0 : 1 ≤ c0 ∧ c0 ≤ 8) (hc1 : 0 ≤ c1 ∧ c1 ≤ 8) (hi8 : iN < 8) :
    Calls Try.prog 37 #[.pointer (some ⟨P1, 0, none⟩), .int .i64 q] w fun e w' => ∃ (x : Int) (ok : Bool) (g last v : Int), e = .returned (.tuple #[.int .i64 x, .bool ok, .int .i64 g]) ∧ (ok = true → c0 + c1 < 2 * (cntV vt x : Int)) ∧ TW w' base [c0, c1, c2, c3, c4, c5, c6, c7, c8, c9] P1 (iN : Int) bm1 n1 D1 last v P2 i2 bm2 n2 D2 l2 v2 ∧ Below base w w' :=
  (ag_commit P1 base bm1 n1 _ _ v1 (-1) iN D1 q vt w h.1 ht ⟨hq.1, by omega⟩ (by omega) ⟨by show 0 ≤ c3; omega, hd.2⟩ ⟨by show 0 ≤ c0; omega, hc0.2⟩ hc1 rfl hi8).mono fun e w' g => by
    rcases g with ⟨_, g2, g3⟩ | ⟨_, _, g2, g3⟩ | ⟨_, g1, g2, g3, g4, g5⟩
    · exact ⟨_, _, _, _, _, g2, fun e => (by cases e), h.below g3, b_cut' g3 h.size⟩
    · exact ⟨_, _, _, _, _, g2, fun e => (by cases e), h.below g3, b_cut' g3 h.size⟩
    · exact ⟨_, _, _, _, _, g2, fun _ => g1, ⟨g3, h.2.1.kept (S := fun k => k = P1) ⟨g4.1, fun i hi hn => g4.2 i hi hn (by simp)⟩ (fun e => h.2.2.1 e.symm) (fun e => h.2.2.2.1 e.symm), h.2.2⟩, g5⟩
end
theorem ag_mlt {W : World} {base A bm n : Nat} {c : List Int} {i last v : Int} {D : DataW Unit} (h : AG W base A c i bm n D last v) : bm < W.heap.size := World.ownsMap.lt h.2.2.2.2
set_option maxHeartbeats 64000000 in
set_option maxRecDepth 100000 in
theorem same_main (K iN jN len3 len4 len5 : Nat) (c0 c1 c2 c3 c4 c5 c6 c7 c8 c9 a6 : Int) (A3 A4 A5 : Option Addr) (cap3 cap4 cap5 : Nat) (l3 l4 l5 : List Int) (w : World) (hc : sched_Check.f 10 c0 c1 c2 c3 c4 c5 c6 c7 c8 c9 = some 0) (hc0 : 1 ≤ c0 ∧ c0 ≤ 8) (hc1 : 0 ≤ c1 ∧ c1 ≤ 8) (hc3 : 1 ≤ c3 ∧ c3 ≤ 4) (hi : (iN : Int) < c0) (hj : (jN : Int) < c0)
    (hr3 : Kd.C (Kd.int .u8) w A3 len3 l3) (hw3 : ∀ x ∈ l3, 0 ≤ x ∧ x < 256) (hr4 : Kd.C (Kd.int .u8) w A4 len4 l4) (hw4 : ∀ x ∈ l4, 0 ≤ x ∧ x < 256) (hr5 : Kd.C (Kd.int .u8) w A5 len5 l5) (hw5 : ∀ x ∈ l5, 0 ≤ x ∧ x < 256) (h6 : 0 ≤ a6 ∧ a6 < 65536)
    (hK0 : (K : Int) ≤ c0) (hK3 : K ≤ len3) (hK4 : K ≤ len4) (hK5 : K ≤ len5) (hlen3 : len3 ≤ 140737488351232) (hlen4 : len4 ≤ 140737488351232) (hlen5 : len5 ≤ 140737488351232)
    (hK : ¬ (K : Int) < c0 ∨ ((K : Int) < c0 ∧ ¬ (K : Int) < (len3 : Int)) ∨ ((K : Int) < c0 ∧ (K : Int) < (len3 : Int) ∧ ¬ (K : Int) < (len4 : Int)) ∨ ((K : Int) < c0 ∧ (K : Int) < (len3 : Int) ∧ (K : Int) < (len4 : Int) ∧ ¬ (K : Int) < (len5 : Int))) :
    Calls Try.prog 10 #[.agg #[.int .i64 c0, .int .i64 c1, .int .i64 c2, .int .i64 c3, .int .i64 c4, .int .i64 c5, .int .i64 c6, .int .i64 c7, .int .i64 c8, .int .i64 c9], .int .i64 (iN : Int), .int .i64 (jN : Int), .slice A3 len3 cap3, .slice A4 len4 cap4, .slice A5 len5 cap5, .int .u16 a6] w fun e w' => e = .returned (.bool true) ∧ Below w.heap.size w w' := by
  have hu2 := Try.underlying60
  have HC := Aside0.mk hc
  have HR3 := Aside0.mk hr3
  have HR4 := Aside0.mk hr4
  have HR5 := Aside0.mk hr5
  have HW3 := Aside0.mk hw3
  have HW4 := Aside0.mk hw4
  have HW5 := Aside0.mk hw5
  have HK := Aside0.mk hK
  have HN3 := Aside0.mk hr3.1
  have HN4 := Aside0.mk hr4.1
  have HN5 := Aside0.mk hr5.1
  have i3 : 0 ≤ a6 := h6.1
  have i4 : a6 < 65536 := h6.2
  have i5 : 1 ≤ c3 := hc3.1
  have i6 : c3 ≤ 4 := hc3.2
  have HI : Aside0 ((iN : Int) < c0 ∧ iN < 8 ∧ 0 ≤ (iN : Int)) := ⟨hi, by omega, by omega⟩
  have HJ : Aside0 ((jN : Int) < c0 ∧ jN < 8 ∧ 0 ≤ (jN : Int)) := ⟨hj, by omega, by omega⟩
  have H0 := Aside0.mk hc0
  have H1 := Aside0.mk hc1
  have H3 := Aside0.mk hc3
  have HQ := Aside0.mk h6
  have HL := Aside0.mk (And.intro hlen3 (And.intro hlen4 hlen5))
  clear hc hr3 hw3 hr4 hw4 hr5 hw5 hK h6 hc3 hi hj
  go_enter Try.func10, Try.ntmps10
  go_wp2_with (first
    | ((with_reducible refine gate_dst (N := 37) rfl ?_); refine wpList_load_row rfl 60 (.tmp 7) rfl w.heap.size rfl 60 #[.int .i64 c0, .int .i64 c1, .int .i64 c2, .int .i64 c3, .int .i64 c4, .int .i64 c5, .int .i64 c6, .int .i64 c7, .int .i64 c8, .int .i64 c9] (0, 0) _ (HF1.out) Try.underlying60 rfl ag_csize ?_; simp only [Act.put, List.setIfInBounds_toArray, List.set_cons_zero, List.set_cons_succ])
    | ((with_reducible refine gate_dst (N := 31) rfl ?_); refine wpList_load_row rfl 60 (.tmp 7) rfl w.heap.size rfl 60 #[.int .i64 c0, .int .i64 c1, .int .i64 c2, .int .i64 c3, .int .i64 c4, .int .i64 c5, .int .i64 c6, .int .i64 c7, .int .i64 c8, .int .i64 c9] (0, 0) _ (heap_alloc_new _ _) Try.underlying60 rfl ag_csize ?_; simp only [Act.put, List.setIfInBounds_toArray, List.set_cons_zero, List.set_cons_succ])
    | (go_at_call 43; (with_reducible refine (ag_new c0 c1 c2 c3 c4 c5 c6 c7 c8 c9 _ _ HC.out HJ.out.2.2 HJ.out.1).mono ?_); rintro e w2 ⟨P2, bm2, rfl, hA, hb⟩; have HT2 := Aside0.mk (tw_make HA1.out (ag_mlt HA1.out) hA hb); have HF2 : Aside0 (CF w2 w.heap.size c0 c1 c2 c3 c4 c5 c6 c7 c8 c9) := ⟨HF1.out.kept (b_cut' hb HS1.out)⟩; have HB2 := Aside0.mk (below_step HB1.out hb); have q3 := HF2.out.at3; clear hA hb)
    | (go_at_call 43; (with_reducible refine (ag_new c0 c1 c2 c3 c4 c5 c6 c7 c8 c9 _ _ HC.out HI.out.2.2 HI.out.1).mono ?_); rintro e w1 ⟨P1, bm1, rfl, hA, hb⟩; have HS1 : Aside0 (w.heap.size + 1 ≤ w1.heap.size) := ⟨by have q := hb.size; rw [World.size_alloc] at q; exact q⟩; rw [World.size_alloc] at hA hb; have HA1 := Aside0.mk hA; have HF1 : Aside0 (CF w1 w.heap.size c0 c1 c2 c3 c4 c5 c6 c7 c8 c9) := ⟨CF.kept (heap_alloc_new w _) hb⟩; have HB1 := Aside0.mk (((Below.refl _ w).alloc (Nat.le_refl _) _).trans (b_cut' hb (Nat.le_succ _))); clear hA hb))
  go_loopw [19, 21] (fun v19 v21 wr => ∃ (k n m1 m2 : Nat) (D1 D2 : DataW Unit) (va vb : List Int), k ≤ K ∧ m1 ≤ k ∧ m2 ≤ k ∧ v21 = .int .i64 k ∧ v19 = .int .i64 n ∧ n ≤ k ∧ (n : Int) ≤ c1 ∧ Aside0 (TW wr (w.heap.size + 1) [c0, c1, c2, c3, c4, c5, c6, c7, c8, c9] P1 (iN : Int) bm1 m1 D1 (-1) 0 P2 (jN : Int) bm2 m2 D2 (-1) 0) ∧ Aside0 (Tells D1 (a6 + c3 + 1) va) ∧ Aside0 (Tells D2 (a6 + c3 + 1) vb) ∧ Aside0 (PQ k n va vb) ∧ Aside0 (CF wr w.heap.size c0 c1 c2 c3 c4 c5 c6 c7 c8 c9) ∧ Aside0 (Below w.heap.size w wr)) (fun _ v21 _ => K - (intOf v21).toNat)
  case atStart => exact ⟨0, 0, 0, 0, _, _, NB8, NB8, Nat.zero_le _, Nat.zero_le _, Nat.zero_le _, rfl, rfl, Nat.zero_le _, H1.out.1, HT2, ⟨tells_new _⟩, ⟨tells_new _⟩, ⟨PQ.start⟩, HF2, HB2⟩
  case round =>
    clear HT2 HF2 HB2 HA1 HF1 HB1
    obtain ⟨k, n, m1, m2, D1, D2, va, vb, hk, hm1, hm2, rfl, rfl, hnk, hnc, XT, X1, X2, XP, XF, XB⟩ := hrel
    have q0 := XF.out.at0
    have q0b := XF.out.at1
    by_cases hlt : k < K
    · obtain ⟨ad3, rfl, hcc3⟩ := (Kd.reads_of_C (enc := Value.int .u8) (d := (0 : Int)) (h1 := fun _ => rfl) HR3.out).2.2 (by omega)
      obtain ⟨ad4, rfl, hcc4⟩ := (Kd.reads_of_C (enc := Value.int .u8) (d := (0 : Int)) (h1 := fun _ => rfl) HR4.out).2.2 (by omega)
      obtain ⟨ad5, rfl, hcc5⟩ := (Kd.reads_of_C (enc := Value.int .u8) (d := (0 : Int)) (h1 := fun _ => rfl) HR5.out).2.2 (by omega)
      have hx3 := hcc3 k (by omega)
      have hwb3 : 0 ≤ l3.getD k 0 ∧ l3.getD k 0 < 256 := by
        have hl := HN3.out
        exact HW3.out _ (by rw [List.getD_eq_getElem?_getD, List.getElem?_eq_getElem (show k < l3.length by omega)]; exact List.getElem_mem _)
      obtain ⟨b3, hb3⟩ : ∃ b, l3.getD k 0 = b := ⟨_, rfl⟩
      rw [hb3] at hx3 hwb3
      have hb30 : 0 ≤ b3 := hwb3.1
      have hb31 : b3 < 256 := hwb3.2
      have HBB3 : Aside0 (0 ≤ b3 ∧ b3 ≤ 255) := ⟨by omega, by omega⟩
      have C3 : Aside0 (∀ W, Below w.heap.size w W → W.cell? (ad3.add k) = some (.int .u8 b3)) := ⟨fun W hb => fl_low hx3 hb⟩
      have q3 := C3.out _ XB.out
      have i23 : (k : Int) < (len3 : Int) := by omega
      have hx4 := hcc4 k (by omega)
      have hwb4 : 0 ≤ l4.getD k 0 ∧ l4.getD k 0 < 256 := by
        have hl := HN4.out
        exact HW4.out _ (by rw [List.getD_eq_getElem?_getD, List.getElem?_eq_getElem (show k < l4.length by omega)]; exact List.getElem_mem _)
      obtain ⟨b4, hb4⟩ : ∃ b, l4.getD k 0 = b := ⟨_, rfl⟩
      rw [hb4] at hx4 hwb4
      have hb40 : 0 ≤ b4 := hwb4.1
      have hb41 : b4 < 256 := hwb4.2
      have HBB4 : Aside0 (0 ≤ b4 ∧ b4 ≤ 255) := ⟨by omega, by omega⟩
      have C4 : Aside0 (∀ W, Below w.heap.size w W → W.cell? (ad4.add k) = some (.int .u8 b4)) := ⟨fun W hb => fl_low hx4 hb⟩
      have q4 := C4.out _ XB.out
      have i24 : (k : Int) < (len4 : Int) := by omega
      have hx5 := hcc5 k (by omega)
      have hwb5 : 0 ≤ l5.getD k 0 ∧ l5.getD k 0 < 256 := by
        have hl := HN5.out
        exact HW5.out _ (by rw [List.getD_eq_getElem?_getD, List.getElem?_eq_getElem (show k < l5.length by omega)]; exact List.getElem_mem _)
      obtain ⟨b5, hb5⟩ : ∃ b, l5.getD k 0 = b := ⟨_, rfl⟩
      rw [hb5] at hx5 hwb5
      have hb50 : 0 ≤ b5 := hwb5.1
      have hb51 : b5 < 256 := hwb5.2
      have HBB5 : Aside0 (0 ≤ b5 ∧ b5 ≤ 255) := ⟨by omega, by omega⟩
      have C5 : Aside0 (∀ W, Below w.heap.size w W → W.cell? (ad5.add k) = some (.int .u8 b5)) := ⟨fun W hb => fl_low hx5 hb⟩
      have q5 := C5.out _ XB.out
      have i25 : (k : Int) < (len5 : Int) := by omega
      have i1 : (k : Int) < c0 := by omega
      have i7 : k < 8 := by have := H0.out; omega
      have hv1 := Aside0.mk (XP.out.at1 i7)
      have hv2 := Aside0.mk (XP.out.at2 i7)
      have i8 : n < 9 := by omega
      clear hcc3 hcc4 hcc5 hx3 hx4 hx5 hwb3 hwb4 hwb5 hb3 hb4 hb5
      by_cases hki : k = iN
      · subst hki
        by_cases hkj : k = jN
        · subst hkj
          by_cases ho : b5 % 2 = 1
          · by_cases hf : (n : Int) < c1
            · by_cases hm : b5 / 2 % 2 = 1
              · go_wp2_with (first
                  | (go_at_call 39; (with_reducible refine (hear_1 _ _ _ _ _ _ _ _ _ _ _ P2 bm2 m2 P1 bm1 (m1 + 1) _ _ 0 _ (-1) 0 D2 (D1.put (keyR (a6 + c3 + 1)) (encV (va.set k b3))) _ _ k vb _ HT5.out.flip X2.out ⟨by omega, by omega⟩ i1 i7 HBB3.out hv2.out (by omega)).mono ?_); rintro e w6 ⟨rfl, hT, hb⟩; have HT6 := Aside0.mk hT.flip; have HF6 := Aside0.mk (HF5.out.kept hb); have HB6 := Aside0.mk (HB5.out.trans (b_cut' hb (Nat.le_succ _))); clear hT hb)
                  | (go_at_call 39; (with_reducible refine (hear_1 _ _ _ _ _ _ _ _ _ _ _ P1 bm1 m1 P2 bm2 m2 _ _ 0 _ (-1) 0 D1 D2 _ _ k va _ XT.out X1.out ⟨by omega, by omega⟩ i1 i7 HBB3.out hv1.out (by omega)).mono ?_); rintro e w5 ⟨rfl, hT, hb⟩; have HT5 := Aside0.mk hT; have HF5 := Aside0.mk (XF.out.kept hb); have HB5 := Aside0.mk (XB.out.trans (b_cut' hb (Nat.le_succ _))); clear hT hb))
                refine ⟨⟨k + 1, n, m1 + 1, m2 + 1, _, _, va.set k b3, vb.set k b3, hlt, by omega, by omega, by simp, by simp, by omega, by omega, HT6, ⟨tells_step XT.out.one (a6 + c3 + 1) (va.set k b3) (XP.out.len1 b3)⟩, ⟨tells_step XT.out.two (a6 + c3 + 1) (vb.set k b3) (XP.out.len2 b3)⟩, ⟨XP.out.same i7 b3⟩, HF6, HB6⟩, ?_⟩
                simp [intOf]
                omega
              · go_wp2_with (first
                  | (go_at_call 39; (with_reducible refine (hear_1 _ _ _ _ _ _ _ _ _ _ _ P2 bm2 m2 P1 bm1 (m1 + 1) _ _ 0 _ (-1) 0 D2 (D1.put (keyR (a6 + c3 + 1)) (encV (va.set k b3))) _ _ k vb _ HT5.out.flip X2.out ⟨by omega, by omega⟩ i1 i7 HBB3.out hv2.out (by omega)).mono ?_); rintro e w6 ⟨rfl, hT, hb⟩; have HT6 := Aside0.mk hT.flip; have HF6 := Aside0.mk (HF5.out.kept hb); have HB6 := Aside0.mk (HB5.out.trans (b_cut' hb (Nat.le_succ _))); clear hT hb)
                  | (go_at_call 39; (with_reducible refine (hear_1 _ _ _ _ _ _ _ _ _ _ _ P1 bm1 m1 P2 bm2 m2 _ _ 0 _ (-1) 0 D1 D2 _ _ k va _ XT.out X1.out ⟨by omega, by omega⟩ i1 i7 HBB3.out hv1.out (by omega)).mono ?_); rintro e w5 ⟨rfl, hT, hb⟩; have HT5 := Aside0.mk hT; have HF5 := Aside0.mk (XF.out.kept hb); have HB5 := Aside0.mk (XB.out.trans (b_cut' hb (Nat.le_succ _))); clear hT hb))
                refine ⟨⟨k + 1, n, m1 + 1, m2 + 1, _, _, va.set k b3, vb.set k b3, hlt, by omega, by omega, by simp, by simp, by omega, by omega, HT6, ⟨tells_step XT.out.one (a6 + c3 + 1) (va.set k b3) (XP.out.len1 b3)⟩, ⟨tells_step XT.out.two (a6 + c3 + 1) (vb.set k b3) (XP.out.len2 b3)⟩, ⟨XP.out.same i7 b3⟩, HF6, HB6⟩, ?_⟩
                simp [intOf]
                omega
            · by_cases hm : b5 / 2 % 2 = 1
              · go_wp2_with (first
                  | (go_at_call 39; (with_reducible refine (hear_1 _ _ _ _ _ _ _ _ _ _ _ P2 bm2 m2 P1 bm1 (m1 + 1) _ _ 0 _ (-1) 0 D2 (D1.put (keyR (a6 + c3 + 1)) (encV (va.set k b3))) _ _ k vb _ HT5.out.flip X2.out ⟨by omega, by omega⟩ i1 i7 HBB3.out hv2.out (by omega)).mono ?_); rintro e w6 ⟨rfl, hT, hb⟩; have HT6 := Aside0.mk hT.flip; have HF6 := Aside0.mk (HF5.out.kept hb); have HB6 := Aside0.mk (HB5.out.trans (b_cut' hb (Nat.le_succ _))); clear hT hb)
                  | (go_at_call 39; (with_reducible refine (hear_1 _ _ _ _ _ _ _ _ _ _ _ P1 bm1 m1 P2 bm2 m2 _ _ 0 _ (-1) 0 D1 D2 _ _ k va _ XT.out X1.out ⟨by omega, by omega⟩ i1 i7 HBB3.out hv1.out (by omega)).mono ?_); rintro e w5 ⟨rfl, hT, hb⟩; have HT5 := Aside0.mk hT; have HF5 := Aside0.mk (XF.out.kept hb); have HB5 := Aside0.mk (XB.out.trans (b_cut' hb (Nat.le_succ _))); clear hT hb))
                refine ⟨⟨k + 1, n, m1 + 1, m2 + 1, _, _, va.set k b3, vb.set k b3, hlt, by omega, by omega, by simp, by simp, by omega, by omega, HT6, ⟨tells_step XT.out.one (a6 + c3 + 1) (va.set k b3) (XP.out.len1 b3)⟩, ⟨tells_step XT.out.two (a6 + c3 + 1) (vb.set k b3) (XP.out.len2 b3)⟩, ⟨XP.out.same i7 b3⟩, HF6, HB6⟩, ?_⟩
                simp [intOf]
                omega
              · go_wp2_with (first
                  | (go_at_call 39; (with_reducible refine (hear_1 _ _ _ _ _ _ _ _ _ _ _ P2 bm2 m2 P1 bm1 (m1 + 1) _ _ 0 _ (-1) 0 D2 (D1.put (keyR (a6 + c3 + 1)) (encV (va.set k b3))) _ _ k vb _ HT5.out.flip X2.out ⟨by omega, by omega⟩ i1 i7 HBB3.out hv2.out (by omega)).mono ?_); rintro e w6 ⟨rfl, hT, hb⟩; have HT6 := Aside0.mk hT.flip; have HF6 := Aside0.mk (HF5.out.kept hb); have HB6 := Aside0.mk (HB5.out.trans (b_cut' hb (Nat.le_succ _))); clear hT hb)
                  | (go_at_call 39; (with_reducible refine (hear_1 _ _ _ _ _ _ _ _ _ _ _ P1 bm1 m1 P2 bm2 m2 _ _ 0 _ (-1) 0 D1 D2 _ _ k va _ XT.out X1.out ⟨by omega, by omega⟩ i1 i7 HBB3.out hv1.out (by omega)).mono ?_); rintro e w5 ⟨rfl, hT, hb⟩; have HT5 := Aside0.mk hT; have HF5 := Aside0.mk (XF.out.kept hb); have HB5 := Aside0.mk (XB.out.trans (b_cut' hb (Nat.le_succ _))); clear hT hb))
                refine ⟨⟨k + 1, n, m1 + 1, m2 + 1, _, _, va.set k b3, vb.set k b3, hlt, by omega, by omega, by simp, by simp, by omega, by omega, HT6, ⟨tells_step XT.out.one (a6 + c3 + 1) (va.set k b3) (XP.out.len1 b3)⟩, ⟨tells_step XT.out.two (a6 + c3 + 1) (vb.set k b3) (XP.out.len2 b3)⟩, ⟨XP.out.same i7 b3⟩, HF6, HB6⟩, ?_⟩
                simp [intOf]
                omega
          · by_cases hm : b5 / 2 % 2 = 1
            · go_wp2_with (first
                | (go_at_call 39; (with_reducible refine (hear_1 _ _ _ _ _ _ _ _ _ _ _ P2 bm2 m2 P1 bm1 (m1 + 1) _ _ 0 _ (-1) 0 D2 (D1.put (keyR (a6 + c3 + 1)) (encV (va.set k b3))) _ _ k vb _ HT5.out.flip X2.out ⟨by omega, by omega⟩ i1 i7 HBB3.out hv2.out (by omega)).mono ?_); rintro e w6 ⟨rfl, hT, hb⟩; have HT6 := Aside0.mk hT.flip; have HF6 := Aside0.mk (HF5.out.kept hb); have HB6 := Aside0.mk (HB5.out.trans (b_cut' hb (Nat.le_succ _))); clear hT hb)
                | (go_at_call 39; (with_reducible refine (hear_1 _ _ _ _ _ _ _ _ _ _ _ P1 bm1 m1 P2 bm2 m2 _ _ 0 _ (-1) 0 D1 D2 _ _ k va _ XT.out X1.out ⟨by omega, by omega⟩ i1 i7 HBB3.out hv1.out (by omega)).mono ?_); rintro e w5 ⟨rfl, hT, hb⟩; have HT5 := Aside0.mk hT; have HF5 := Aside0.mk (XF.out.kept hb); have HB5 := Aside0.mk (XB.out.trans (b_cut' hb (Nat.le_succ _))); clear hT hb))
              refine ⟨⟨k + 1, n, m1 + 1, m2 + 1, _, _, va.set k b3, vb.set k b3, hlt, by omega, by omega, by simp, by simp, by omega, by omega, HT6, ⟨tells_step XT.out.one (a6 + c3 + 1) (va.set k b3) (XP.out.len1 b3)⟩, ⟨tells_step XT.out.two (a6 + c3 + 1) (vb.set k b3) (XP.out.len2 b3)⟩, ⟨XP.out.same i7 b3⟩, HF6, HB6⟩, ?_⟩
              simp [intOf]
              omega
            · go_wp2_with (first
                | (go_at_call 39; (with_reducible refine (hear_1 _ _ _ _ _ _ _ _ _ _ _ P2 bm2 m2 P1 bm1 (m1 + 1) _ _ 0 _ (-1) 0 D2 (D1.put (keyR (a6 + c3 + 1)) (encV (va.set k b3))) _ _ k vb _ HT5.out.flip X2.out ⟨by omega, by omega⟩ i1 i7 HBB3.out hv2.out (by omega)).mono ?_); rintro e w6 ⟨rfl, hT, hb⟩; have HT6 := Aside0.mk hT.flip; have HF6 := Aside0.mk (HF5.out.kept hb); have HB6 := Aside0.mk (HB5.out.trans (b_cut' hb (Nat.le_succ _))); clear hT hb)
                | (go_at_call 39; (with_reducible refine (hear_1 _ _ _ _ _ _ _ _ _ _ _ P1 bm1 m1 P2 bm2 m2 _ _ 0 _ (-1) 0 D1 D2 _ _ k va _ XT.out X1.out ⟨by omega, by omega⟩ i1 i7 HBB3.out hv1.out (by omega)).mono ?_); rintro e w5 ⟨rfl, hT, hb⟩; have HT5 := Aside0.mk hT; have HF5 := Aside0.mk (XF.out.kept hb); have HB5 := Aside0.mk (XB.out.trans (b_cut' hb (Nat.le_succ _))); clear hT hb))
              refine ⟨⟨k + 1, n, m1 + 1, m2 + 1, _, _, va.set k b3, vb.set k b3, hlt, by omega, by omega, by simp, by simp, by omega, by omega, HT6, ⟨tells_step XT.out.one (a6 + c3 + 1) (va.set k b3) (XP.out.len1 b3)⟩, ⟨tells_step XT.out.two (a6 + c3 + 1) (vb.set k b3) (XP.out.len2 b3)⟩, ⟨XP.out.same i7 b3⟩, HF6, HB6⟩, ?_⟩
              simp [intOf]
              omega
        · have hkj1 : ¬ (k : Int) = (jN : Int) := by omega
          by_cases ho : b5 % 2 = 1
          · by_cases hf : (n : Int) < c1
            · by_cases hm : b5 / 2 % 2 = 1
              · go_wp2_with (first
                  | (go_at_call 39; (with_reducible refine (hear_1 _ _ _ _ _ _ _ _ _ _ _ P1 bm1 m1 P2 bm2 m2 _ _ 0 _ (-1) 0 D1 D2 _ _ k va _ XT.out X1.out ⟨by omega, by omega⟩ i1 i7 HBB3.out hv1.out (by omega)).mono ?_); rintro e w5 ⟨rfl, hT, hb⟩; have HT5 := Aside0.mk hT; have HF5 := Aside0.mk (XF.out.kept hb); have HB5 := Aside0.mk (XB.out.trans (b_cut' hb (Nat.le_succ _))); clear hT hb))
                refine ⟨⟨k + 1, n, m1 + 1, m2, _, _, va.set k b3, vb, hlt, by omega, by omega, by simp, by simp, by omega, by omega, HT5, ⟨tells_step XT.out.one (a6 + c3 + 1) (va.set k b3) (XP.out.len1 b3)⟩, X2, ⟨XP.out.left i7 b3⟩, HF5, HB5⟩, ?_⟩
                simp [intOf]
                omega
              · go_wp2_with (first
                  | (go_at_call 39; (with_reducible refine (hear_1 _ _ _ _ _ _ _ _ _ _ _ P2 bm2 m2 P1 bm1 (m1 + 1) _ _ 0 _ (-1) 0 D2 (D1.put (keyR (a6 + c3 + 1)) (encV (va.set k b3))) _ _ k vb _ HT5.out.flip X2.out ⟨by omega, by omega⟩ i1 i7 HBB3.out hv2.out (by omega)).mono ?_); rintro e w6 ⟨rfl, hT, hb⟩; have HT6 := Aside0.mk hT.flip; have HF6 := Aside0.mk (HF5.out.kept hb); have HB6 := Aside0.mk (HB5.out.trans (b_cut' hb (Nat.le_succ _))); clear hT hb)
                  | (go_at_call 39; (with_reducible refine (hear_1 _ _ _ _ _ _ _ _ _ _ _ P1 bm1 m1 P2 bm2 m2 _ _ 0 _ (-1) 0 D1 D2 _ _ k va _ XT.out X1.out ⟨by omega, by omega⟩ i1 i7 HBB3.out hv1.out (by omega)).mono ?_); rintro e w5 ⟨rfl, hT, hb⟩; have HT5 := Aside0.mk hT; have HF5 := Aside0.mk (XF.out.kept hb); have HB5 := Aside0.mk (XB.out.trans (b_cut' hb (Nat.le_succ _))); clear hT hb))
                refine ⟨⟨k + 1, n, m1 + 1, m2 + 1, _, _, va.set k b3, vb.set k b3, hlt, by omega, by omega, by simp, by simp, by omega, by omega, HT6, ⟨tells_step XT.out.one (a6 + c3 + 1) (va.set k b3) (XP.out.len1 b3)⟩, ⟨tells_step XT.out.two (a6 + c3 + 1) (vb.set k b3) (XP.out.len2 b3)⟩, ⟨XP.out.same i7 b3⟩, HF6, HB6⟩, ?_⟩
                simp [intOf]
                omega
            · by_cases hm : b5 / 2 % 2 = 1
              · go_wp2_with (first
                  | (go_at_call 39; (with_reducible refine (hear_1 _ _ _ _ _ _ _ _ _ _ _ P1 bm1 m1 P2 bm2 m2 _ _ 0 _ (-1) 0 D1 D2 _ _ k va _ XT.out X1.out ⟨by omega, by omega⟩ i1 i7 HBB3.out hv1.out (by omega)).mono ?_); rintro e w5 ⟨rfl, hT, hb⟩; have HT5 := Aside0.mk hT; have HF5 := Aside0.mk (XF.out.kept hb); have HB5 := Aside0.mk (XB.out.trans (b_cut' hb (Nat.le_succ _))); clear hT hb))
                refine ⟨⟨k + 1, n, m1 + 1, m2, _, _, va.set k b3, vb, hlt, by omega, by omega, by simp, by simp, by omega, by omega, HT5, ⟨tells_step XT.out.one (a6 + c3 + 1) (va.set k b3) (XP.out.len1 b3)⟩, X2, ⟨XP.out.left i7 b3⟩, HF5, HB5⟩, ?_⟩
                simp [intOf]
                omega
              · go_wp2_with (first
                  | (go_at_call 39; (with_reducible refine (hear_1 _ _ _ _ _ _ _ _ _ _ _ P2 bm2 m2 P1 bm1 (m1 + 1) _ _ 0 _ (-1) 0 D2 (D1.put (keyR (a6 + c3 + 1)) (encV (va.set k b3))) _ _ k vb _ HT5.out.flip X2.out ⟨by omega, by omega⟩ i1 i7 HBB3.out hv2.out (by omega)).mono ?_); rintro e w6 ⟨rfl, hT, hb⟩; have HT6 := Aside0.mk hT.flip; have HF6 := Aside0.mk (HF5.out.kept hb); have HB6 := Aside0.mk (HB5.out.trans (b_cut' hb (Nat.le_succ _))); clear hT hb)
                  | (go_at_call 39; (with_reducible refine (hear_1 _ _ _ _ _ _ _ _ _ _ _ P1 bm1 m1 P2 bm2 m2 _ _ 0 _ (-1) 0 D1 D2 _ _ k va _ XT.out X1.out ⟨by omega, by omega⟩ i1 i7 HBB3.out hv1.out (by omega)).mono ?_); rintro e w5 ⟨rfl, hT, hb⟩; have HT5 := Aside0.mk hT; have HF5 := Aside0.mk (XF.out.kept hb); have HB5 := Aside0.mk (XB.out.trans (b_cut' hb (Nat.le_succ _))); clear hT hb))
                refine ⟨⟨k + 1, n, m1 + 1, m2 + 1, _, _, va.set k b3, vb.set k b3, hlt, by omega, by omega, by simp, by simp, by omega, by omega, HT6, ⟨tells_step XT.out.one (a6 + c3 + 1) (va.set k b3) (XP.out.len1 b3)⟩, ⟨tells_step XT.out.two (a6 + c3 + 1) (vb.set k b3) (XP.out.len2 b3)⟩, ⟨XP.out.same i7 b3⟩, HF6, HB6⟩, ?_⟩
                simp [intOf]
                omega
          · by_cases hm : b5 / 2 % 2 = 1
            · go_wp2_with (first
                | (go_at_call 39; (with_reducible refine (hear_1 _ _ _ _ _ _ _ _ _ _ _ P1 bm1 m1 P2 bm2 m2 _ _ 0 _ (-1) 0 D1 D2 _ _ k va _ XT.out X1.out ⟨by omega, by omega⟩ i1 i7 HBB3.out hv1.out (by omega)).mono ?_); rintro e w5 ⟨rfl, hT, hb⟩; have HT5 := Aside0.mk hT; have HF5 := Aside0.mk (XF.out.kept hb); have HB5 := Aside0.mk (XB.out.trans (b_cut' hb (Nat.le_succ _))); clear hT hb))
              refine ⟨⟨k + 1, n, m1 + 1, m2, _, _, va.set k b3, vb, hlt, by omega, by omega, by simp, by simp, by omega, by omega, HT5, ⟨tells_step XT.out.one (a6 + c3 + 1) (va.set k b3) (XP.out.len1 b3)⟩, X2, ⟨XP.out.left i7 b3⟩, HF5, HB5⟩, ?_⟩
              simp [intOf]
              omega
            · go_wp2_with (first
                | (go_at_call 39; (with_reducible refine (hear_1 _ _ _ _ _ _ _ _ _ _ _ P2 bm2 m2 P1 bm1 (m1 + 1) _ _ 0 _ (-1) 0 D2 (D1.put (keyR (a6 + c3 + 1)) (encV (va.set k b3))) _ _ k vb _ HT5.out.flip X2.out ⟨by omega, by omega⟩ i1 i7 HBB3.out hv2.out (by omega)).mono ?_); rintro e w6 ⟨rfl, hT, hb⟩; have HT6 := Aside0.mk hT.flip; have HF6 := Aside0.mk (HF5.out.kept hb); have HB6 := Aside0.mk (HB5.out.trans (b_cut' hb (Nat.le_succ _))); clear hT hb)
                | (go_at_call 39; (with_reducible refine (hear_1 _ _ _ _ _ _ _ _ _ _ _ P1 bm1 m1 P2 bm2 m2 _ _ 0 _ (-1) 0 D1 D2 _ _ k va _ XT.out X1.out ⟨by omega, by omega⟩ i1 i7 HBB3.out hv1.out (by omega)).mono ?_); rintro e w5 ⟨rfl, hT, hb⟩; have HT5 := Aside0.mk hT; have HF5 := Aside0.mk (XF.out.kept hb); have HB5 := Aside0.mk (XB.out.trans (b_cut' hb (Nat.le_succ _))); clear hT hb))
              refine ⟨⟨k + 1, n, m1 + 1, m2 + 1, _, _, va.set k b3, vb.set k b3, hlt, by omega, by omega, by simp, by simp, by omega, by omega, HT6, ⟨tells_step XT.out.one (a6 + c3 + 1) (va.set k b3) (XP.out.len1 b3)⟩, ⟨tells_step XT.out.two (a6 + c3 + 1) (vb.set k b3) (XP.out.len2 b3)⟩, ⟨XP.out.same i7 b3⟩, HF6, HB6⟩, ?_⟩
              simp [intOf]
              omega
      · have hki1 : ¬ (k : Int) = (iN : Int) := by omega
        have hki2 : ((k : Int) != (iN : Int)) = true := by simpa using hki1
        by_cases hkj : k = jN
        · subst hkj
          by_cases ho : b5 % 2 = 1
          · by_cases hf : (n : Int) < c1
            · by_cases hm : b5 / 2 % 2 = 1
              · go_wp2_with (first
                  | (go_at_call 39; (with_reducible refine (hear_1 _ _ _ _ _ _ _ _ _ _ _ P2 bm2 m2 P1 bm1 (m1) _ _ 0 _ (-1) 0 D2 D1 _ _ k vb _ XT.out.flip X2.out ⟨by omega, by omega⟩ i1 i7 HBB3.out hv2.out (by omega)).mono ?_); rintro e w6 ⟨rfl, hT, hb⟩; have HT6 := Aside0.mk hT.flip; have HF6 := Aside0.mk (XF.out.kept hb); have HB6 := Aside0.mk (XB.out.trans (b_cut' hb (Nat.le_succ _))); clear hT hb))
                refine ⟨⟨k + 1, n, m1, m2 + 1, _, _, va, vb.set k b3, hlt, by omega, by omega, by simp, by simp, by omega, by omega, HT6, X1, ⟨tells_step XT.out.two (a6 + c3 + 1) (vb.set k b3) (XP.out.len2 b3)⟩, ⟨XP.out.right i7 b3⟩, HF6, HB6⟩, ?_⟩
                simp [intOf]
                omega
              · go_wp2_with (first
                  | (go_at_call 39; (with_reducible refine (hear_1 _ _ _ _ _ _ _ _ _ _ _ P2 bm2 m2 P1 bm1 (m1 + 1) _ _ 0 _ (-1) 0 D2 (D1.put (keyR (a6 + c3 + 1)) (encV (va.set k b3))) _ _ k vb _ HT5.out.flip X2.out ⟨by omega, by omega⟩ i1 i7 HBB3.out hv2.out (by omega)).mono ?_); rintro e w6 ⟨rfl, hT, hb⟩; have HT6 := Aside0.mk hT.flip; have HF6 := Aside0.mk (HF5.out.kept hb); have HB6 := Aside0.mk (HB5.out.trans (b_cut' hb (Nat.le_succ _))); clear hT hb)
                  | (go_at_call 39; (with_reducible refine (hear_1 _ _ _ _ _ _ _ _ _ _ _ P1 bm1 m1 P2 bm2 m2 _ _ 0 _ (-1) 0 D1 D2 _ _ k va _ XT.out X1.out ⟨by omega, by omega⟩ i1 i7 HBB3.out hv1.out (by omega)).mono ?_); rintro e w5 ⟨rfl, hT, hb⟩; have HT5 := Aside0.mk hT; have HF5 := Aside0.mk (XF.out.kept hb); have HB5 := Aside0.mk (XB.out.trans (b_cut' hb (Nat.le_succ _))); clear hT hb))
                refine ⟨⟨k + 1, n, m1 + 1, m2 + 1, _, _, va.set k b3, vb.set k b3, hlt, by omega, by omega, by simp, by simp, by omega, by omega, HT6, ⟨tells_step XT.out.one (a6 + c3 + 1) (va.set k b3) (XP.out.len1 b3)⟩, ⟨tells_step XT.out.two (a6 + c3 + 1) (vb.set k b3) (XP.out.len2 b3)⟩, ⟨XP.out.same i7 b3⟩, HF6, HB6⟩, ?_⟩
                simp [intOf]
                omega
            · by_cases hm : b5 / 2 % 2 = 1
              · go_wp2_with (first
                  | (go_at_call 39; (with_reducible refine (hear_1 _ _ _ _ _ _ _ _ _ _ _ P2 bm2 m2 P1 bm1 (m1) _ _ 0 _ (-1) 0 D2 D1 _ _ k vb _ XT.out.flip X2.out ⟨by omega, by omega⟩ i1 i7 HBB3.out hv2.out (by omega)).mono ?_); rintro e w6 ⟨rfl, hT, hb⟩; have HT6 := Aside0.mk hT.flip; have HF6 := Aside0.mk (XF.out.kept hb); have HB6 := Aside0.mk (XB.out.trans (b_cut' hb (Nat.le_succ _))); clear hT hb))
                refine ⟨⟨k + 1, n, m1, m2 + 1, _, _, va, vb.set k b3, hlt, by omega, by omega, by simp, by simp, by omega, by omega, HT6, X1, ⟨tells_step XT.out.two (a6 + c3 + 1) (vb.set k b3) (XP.out.len2 b3)⟩, ⟨XP.out.right i7 b3⟩, HF6, HB6⟩, ?_⟩
                simp [intOf]
                omega
              · go_wp2_with (first
                  | (go_at_call 39; (with_reducible refine (hear_1 _ _ _ _ _ _ _ _ _ _ _ P2 bm2 m2 P1 bm1 (m1 + 1) _ _ 0 _ (-1) 0 D2 (D1.put (keyR (a6 + c3 + 1)) (encV (va.set k b3))) _ _ k vb _ HT5.out.flip X2.out ⟨by omega, by omega⟩ i1 i7 HBB3.out hv2.out (by omega)).mono ?_); rintro e w6 ⟨rfl, hT, hb⟩; have HT6 := Aside0.mk hT.flip; have HF6 := Aside0.mk (HF5.out.kept hb); have HB6 := Aside0.mk (HB5.out.trans (b_cut' hb (Nat.le_succ _))); clear hT hb)
                  | (go_at_call 39; (with_reducible refine (hear_1 _ _ _ _ _ _ _ _ _ _ _ P1 bm1 m1 P2 bm2 m2 _ _ 0 _ (-1) 0 D1 D2 _ _ k va _ XT.out X1.out ⟨by omega, by omega⟩ i1 i7 HBB3.out hv1.out (by omega)).mono ?_); rintro e w5 ⟨rfl, hT, hb⟩; have HT5 := Aside0.mk hT; have HF5 := Aside0.mk (XF.out.kept hb); have HB5 := Aside0.mk (XB.out.trans (b_cut' hb (Nat.le_succ _))); clear hT hb))
                refine ⟨⟨k + 1, n, m1 + 1, m2 + 1, _, _, va.set k b3, vb.set k b3, hlt, by omega, by omega, by simp, by simp, by omega, by omega, HT6, ⟨tells_step XT.out.one (a6 + c3 + 1) (va.set k b3) (XP.out.len1 b3)⟩, ⟨tells_step XT.out.two (a6 + c3 + 1) (vb.set k b3) (XP.out.len2 b3)⟩, ⟨XP.out.same i7 b3⟩, HF6, HB6⟩, ?_⟩
                simp [intOf]
                omega
          · by_cases hm : b5 / 2 % 2 = 1
            · go_wp2_with (first
                | (go_at_call 39; (with_reducible refine (hear_1 _ _ _ _ _ _ _ _ _ _ _ P2 bm2 m2 P1 bm1 (m1) _ _ 0 _ (-1) 0 D2 D1 _ _ k vb _ XT.out.flip X2.out ⟨by omega, by omega⟩ i1 i7 HBB3.out hv2.out (by omega)).mono ?_); rintro e w6 ⟨rfl, hT, hb⟩; have HT6 := Aside0.mk hT.flip; have HF6 := Aside0.mk (XF.out.kept hb); have HB6 := Aside0.mk (XB.out.trans (b_cut' hb (Nat.le_succ _))); clear hT hb))
              refine ⟨⟨k + 1, n, m1, m2 + 1, _, _, va, vb.set k b3, hlt, by omega, by omega, by simp, by simp, by omega, by omega, HT6, X1, ⟨tells_step XT.out.two (a6 + c3 + 1) (vb.set k b3) (XP.out.len2 b3)⟩, ⟨XP.out.right i7 b3⟩, HF6, HB6⟩, ?_⟩
              simp [intOf]
              omega
            · go_wp2_with (first
                | (go_at_call 39; (with_reducible refine (hear_1 _ _ _ _ _ _ _ _ _ _ _ P2 bm2 m2 P1 bm1 (m1 + 1) _ _ 0 _ (-1) 0 D2 (D1.put (keyR (a6 + c3 + 1)) (encV (va.set k b3))) _ _ k vb _ HT5.out.flip X2.out ⟨by omega, by omega⟩ i1 i7 HBB3.out hv2.out (by omega)).mono ?_); rintro e w6 ⟨rfl, hT, hb⟩; have HT6 := Aside0.mk hT.flip; have HF6 := Aside0.mk (HF5.out.kept hb); have HB6 := Aside0.mk (HB5.out.trans (b_cut' hb (Nat.le_succ _))); clear hT hb)
                | (go_at_call 39; (with_reducible refine (hear_1 _ _ _ _ _ _ _ _ _ _ _ P1 bm1 m1 P2 bm2 m2 _ _ 0 _ (-1) 0 D1 D2 _ _ k va _ XT.out X1.out ⟨by omega, by omega⟩ i1 i7 HBB3.out hv1.out (by omega)).mono ?_); rintro e w5 ⟨rfl, hT, hb⟩; have HT5 := Aside0.mk hT; have HF5 := Aside0.mk (XF.out.kept hb); have HB5 := Aside0.mk (XB.out.trans (b_cut' hb (Nat.le_succ _))); clear hT hb))
              refine ⟨⟨k + 1, n, m1 + 1, m2 + 1, _, _, va.set k b3, vb.set k b3, hlt, by omega, by omega, by simp, by simp, by omega, by omega, HT6, ⟨tells_step XT.out.one (a6 + c3 + 1) (va.set k b3) (XP.out.len1 b3)⟩, ⟨tells_step XT.out.two (a6 + c3 + 1) (vb.set k b3) (XP.out.len2 b3)⟩, ⟨XP.out.same i7 b3⟩, HF6, HB6⟩, ?_⟩
              simp [intOf]
              omega
        · have hkj1 : ¬ (k : Int) = (jN : Int) := by omega
          have hkj2 : ((k : Int) != (jN : Int)) = true := by simpa using hkj1
          by_cases ho : b5 % 2 = 1
          · by_cases hf : (n : Int) < c1
            · by_cases hm : b5 / 2 % 2 = 1
              · go_wp2
                refine ⟨⟨k + 1, n + 1, m1, m2, _, _, va, vb, hlt, by omega, by omega, by simp, by simp, by omega, by omega, XT, X1, X2, ⟨XP.out.skip1⟩, XF, XB⟩, ?_⟩
                simp [intOf]
                omega
              · go_wp2_with (first
                  | (go_at_call 39; (with_reducible refine (hear_1 _ _ _ _ _ _ _ _ _ _ _ P2 bm2 m2 P1 bm1 (m1 + 1) _ _ 0 _ (-1) 0 D2 (D1.put (keyR (a6 + c3 + 1)) (encV (va.set k b3))) _ _ k vb _ HT5.out.flip X2.out ⟨by omega, by omega⟩ i1 i7 HBB4.out hv2.out (by omega)).mono ?_); rintro e w6 ⟨rfl, hT, hb⟩; have HT6 := Aside0.mk hT.flip; have HF6 := Aside0.mk (HF5.out.kept hb); have HB6 := Aside0.mk (HB5.out.trans (b_cut' hb (Nat.le_succ _))); clear hT hb)
                  | (go_at_call 39; (with_reducible refine (hear_1 _ _ _ _ _ _ _ _ _ _ _ P1 bm1 m1 P2 bm2 m2 _ _ 0 _ (-1) 0 D1 D2 _ _ k va _ XT.out X1.out ⟨by omega, by omega⟩ i1 i7 HBB3.out hv1.out (by omega)).mono ?_); rintro e w5 ⟨rfl, hT, hb⟩; have HT5 := Aside0.mk hT; have HF5 := Aside0.mk (XF.out.kept hb); have HB5 := Aside0.mk (XB.out.trans (b_cut' hb (Nat.le_succ _))); clear hT hb))
                refine ⟨⟨k + 1, n + 1, m1 + 1, m2 + 1, _, _, va.set k b3, vb.set k b4, hlt, by omega, by omega, by simp, by simp, by omega, by omega, HT6, ⟨tells_step XT.out.one (a6 + c3 + 1) (va.set k b3) (XP.out.len1 b3)⟩, ⟨tells_step XT.out.two (a6 + c3 + 1) (vb.set k b4) (XP.out.len2 b4)⟩, ⟨XP.out.other i7 b3 b4⟩, HF6, HB6⟩, ?_⟩
                simp [intOf]
                omega
            · by_cases hm : b5 / 2 % 2 = 1
              · go_wp2
                refine ⟨⟨k + 1, n, m1, m2, _, _, va, vb, hlt, by omega, by omega, by simp, by simp, by omega, by omega, XT, X1, X2, ⟨XP.out.skip⟩, XF, XB⟩, ?_⟩
                simp [intOf]
                omega
              · go_wp2_with (first
                  | (go_at_call 39; (with_reducible refine (hear_1 _ _ _ _ _ _ _ _ _ _ _ P2 bm2 m2 P1 bm1 (m1 + 1) _ _ 0 _ (-1) 0 D2 (D1.put (keyR (a6 + c3 + 1)) (encV (va.set k b3))) _ _ k vb _ HT5.out.flip X2.out ⟨by omega, by omega⟩ i1 i7 HBB3.out hv2.out (by omega)).mono ?_); rintro e w6 ⟨rfl, hT, hb⟩; have HT6 := Aside0.mk hT.flip; have HF6 := Aside0.mk (HF5.out.kept hb); have HB6 := Aside0.mk (HB5.out.trans (b_cut' hb (Nat.le_succ _))); clear hT hb)
                  | (go_at_call 39; (with_reducible refine (hear_1 _ _ _ _ _ _ _ _ _ _ _ P1 bm1 m1 P2 bm2 m2 _ _ 0 _ (-1) 0 D1 D2 _ _ k va _ XT.out X1.out ⟨by omega, by omega⟩ i1 i7 HBB3.out hv1.out (by omega)).mono ?_); rintro e w5 ⟨rfl, hT, hb⟩; have HT5 := Aside0.mk hT; have HF5 := Aside0.mk (XF.out.kept hb); have HB5 := Aside0.mk (XB.out.trans (b_cut' hb (Nat.le_succ _))); clear hT hb))
                refine ⟨⟨k + 1, n, m1 + 1, m2 + 1, _, _, va.set k b3, vb.set k b3, hlt, by omega, by omega, by simp, by simp, by omega, by omega, HT6, ⟨tells_step XT.out.one (a6 + c3 + 1) (va.set k b3) (XP.out.len1 b3)⟩, ⟨tells_step XT.out.two (a6 + c3 + 1) (vb.set k b3) (XP.out.len2 b3)⟩, ⟨XP.out.same i7 b3⟩, HF6, HB6⟩, ?_⟩
                simp [intOf]
                omega
          · by_cases hm : b5 / 2 % 2 = 1
            · go_wp2
              refine ⟨⟨k + 1, n, m1, m2, _, _, va, vb, hlt, by omega, by omega, by simp, by simp, by omega, by omega, XT, X1, X2, ⟨XP.out.skip⟩, XF, XB⟩, ?_⟩
              simp [intOf]
              omega
            · go_wp2_with (first
                | (go_at_call 39; (with_reducible refine (hear_1 _ _ _ _ _ _ _ _ _ _ _ P2 bm2 m2 P1 bm1 (m1 + 1) _ _ 0 _ (-1) 0 D2 (D1.put (keyR (a6 + c3 + 1)) (encV (va.set k b3))) _ _ k vb _ HT5.out.flip X2.out ⟨by omega, by omega⟩ i1 i7 HBB3.out hv2.out (by omega)).mono ?_); rintro e w6 ⟨rfl, hT, hb⟩; have HT6 := Aside0.mk hT.flip; have HF6 := Aside0.mk (HF5.out.kept hb); have HB6 := Aside0.mk (HB5.out.trans (b_cut' hb (Nat.le_succ _))); clear hT hb)
                | (go_at_call 39; (with_reducible refine (hear_1 _ _ _ _ _ _ _ _ _ _ _ P1 bm1 m1 P2 bm2 m2 _ _ 0 _ (-1) 0 D1 D2 _ _ k va _ XT.out X1.out ⟨by omega, by omega⟩ i1 i7 HBB3.out hv1.out (by omega)).mono ?_); rintro e w5 ⟨rfl, hT, hb⟩; have HT5 := Aside0.mk hT; have HF5 := Aside0.mk (XF.out.kept hb); have HB5 := Aside0.mk (XB.out.trans (b_cut' hb (Nat.le_succ _))); clear hT hb))
              refine ⟨⟨k + 1, n, m1 + 1, m2 + 1, _, _, va.set k b3, vb.set k b3, hlt, by omega, by omega, by simp, by simp, by omega, by omega, HT6, ⟨tells_step XT.out.one (a6 + c3 + 1) (va.set k b3) (XP.out.len1 b3)⟩, ⟨tells_step XT.out.two (a6 + c3 + 1) (vb.set k b3) (XP.out.len2 b3)⟩, ⟨XP.out.same i7 b3⟩, HF6, HB6⟩, ?_⟩
              simp [intOf]
              omega
    · obtain rfl : k = K := by omega
      have hkk := HK.out
      clear HK
      rcases hkk with j1 | ⟨j1, j2⟩ | ⟨j1, j2, j3⟩ | ⟨j1, j2, j3, j4⟩
      all_goals
        go_upto_region 21 with (first
          | (go_at_call 37; (with_reducible refine (com_1 _ _ _ _ _ _ _ _ _ _ _ P2 bm2 m2 P1 bm1 m1 0 _ la1 vv1 D2 D1 vb _ jN XT5.out.flip a6 X2.out HQ.out H3.out H0.out H1.out HJ.out.2.1).mono ?_); rintro e w6 ⟨y, p2, g2, la2, vv2, rfl, hy, hT, hb⟩; have HY := Aside0.mk hy; have HB6 := Aside0.mk (HB5.out.trans (b_cut' hb (Nat.le_succ _))); clear hy hT hb)
          | (go_at_call 37; (with_reducible refine (com_1 _ _ _ _ _ _ _ _ _ _ _ P1 bm1 m1 P2 bm2 m2 0 _ (-1) 0 D1 D2 va _ iN XT.out a6 X1.out HQ.out H3.out H0.out H1.out HI.out.2.1).mono ?_); rintro e w5 ⟨x, p1, g1, la1, vv1, rfl, hx, hT, hb⟩; have HX := Aside0.mk hx; have XT5 := Aside0.mk hT; have HB5 := Aside0.mk (XB.out.trans (b_cut' hb (Nat.le_succ _))); clear hx hT hb q0 q0b))
        have HKN := Aside0.mk (And.intro hK0 hnc)
        clear hK0 hnc hnk hm1 hm2 hk hlt j1 hc0 hc1
        by_cases h1 : g1 = 0
        · subst h1
          by_cases h2 : g2 = 0
          · subst h2
            cases p1
            · go_wp2_with (go_at_call 44; (with_reducible refine (ag_awake _).mono ?_); rintro e w9 ⟨rfl, hb⟩; have HB9 := Aside0.mk (below_step HB6.out hb); clear hb)
              go_ret
              exact ⟨rfl, HB9.out⟩
            · cases p2
              · go_wp2_with (go_at_call 44; (with_reducible refine (ag_awake _).mono ?_); rintro e w9 ⟨rfl, hb⟩; have HB9 := Aside0.mk (below_step HB6.out hb); clear hb)
                go_ret
                exact ⟨rfl, HB9.out⟩
              · have hxy : x = y := pq_end XP.out HKN.out.1 HKN.out.2 (HX.out rfl) (HY.out rfl)
                subst hxy
                go_wp2_with (go_at_call 44; (with_reducible refine (ag_awake _).mono ?_); rintro e w9 ⟨rfl, hb⟩; have HB9 := Aside0.mk (below_step HB6.out hb); clear hb)
                go_ret
                exact ⟨rfl, HB9.out⟩
          · go_wp2_with (go_at_call 44; (with_reducible refine (ag_awake _).mono ?_); rintro e w9 ⟨rfl, hb⟩; have HB9 := Aside0.mk (below_step HB6.out hb); clear hb)
            go_ret
            exact ⟨rfl, HB9.out⟩
        · go_wp2_with (go_at_call 44; (with_reducible refine (ag_awake _).mono ?_); rintro e w9 ⟨rfl, hb⟩; have HB9 := Aside0.mk (below_step HB6.out hb); clear hb)
          go_ret
          exact ⟨rfl, HB9.out⟩
set_option maxHeartbeats 8000000 in
set_option maxRecDepth 100000 in
theorem same_no00 (r : Int) (c0 c1 c2 c3 c4 c5 c6 c7 c8 c9 a1 a2 a6 : Int) (A3 A4 A5 : Option Addr) (len3 cap3 len4 cap4 len5 cap5 : Nat) (w : World) (hc : sched_Check.f 10 c0 c1 c2 c3 c4 c5 c6 c7 c8 c9 = some r) (ha : r = 1 ∨ (r = 0 ∧ (a1 < 0 ∨ c0 ≤ a1))) (hb : r = 1 ∨ (r = 0 ∧ (a2 < 0 ∨ c0 ≤ a2))) :
    Calls Try.prog 10 #[.agg #[.int .i64 c0, .int .i64 c1, .int .i64 c2, .int .i64 c3, .int .i64 c4, .int .i64 c5, .int .i64 c6, .int .i64 c7, .int .i64 c8, .int .i64 c9], .int .i64 a1, .int .i64 a2, .slice A3 len3 cap3, .slice A4 len4 cap4, .slice A5 len5 cap5, .int .u16 a6] w fun e w' => e = .returned (.bool true) ∧ Below w.heap.size w w' := by
  have HC := Aside0.mk hc
  have HA := Aside0.mk ha
  have HB := Aside0.mk hb
  clear hc ha hb
  go_enter Try.func10, Try.ntmps10
  go_wp2_with (first
    | ((with_reducible refine gate_dst (N := 37) rfl ?_); refine wpList_load_row rfl 60 (.tmp 7) rfl w.heap.size rfl 60 #[.int .i64 c0, .int .i64 c1, .int .i64 c2, .int .i64 c3, .int .i64 c4, .int .i64 c5, .int .i64 c6, .int .i64 c7, .int .i64 c8, .int .i64 c9] (0, 0) _ (HF1.out) Try.underlying60 rfl ag_csize ?_; simp only [Act.put, List.setIfInBounds_toArray, List.set_cons_zero, List.set_cons_succ])
    | ((with_reducible refine gate_dst (N := 31) rfl ?_); refine wpList_load_row rfl 60 (.tmp 7) rfl w.heap.size rfl 60 #[.int .i64 c0, .int .i64 c1, .int .i64 c2, .int .i64 c3, .int .i64 c4, .int .i64 c5, .int .i64 c6, .int .i64 c7, .int .i64 c8, .int .i64 c9] (0, 0) _ (heap_alloc_new _ _) Try.underlying60 rfl ag_csize ?_; simp only [Act.put, List.setIfInBounds_toArray, List.set_cons_zero, List.set_cons_succ])
    | (go_at_call 43; have HFs := HF1; (with_reducible refine (ag_new_no c0 c1 c2 c3 c4 c5 c6 c7 c8 c9 _ r _ HC.out HB.out).mono ?_); rintro e w2 ⟨rfl, hb⟩; have HB2 := Aside0.mk (below_step HB1.out hb); clear hb)
    | (go_at_call 43; (with_reducible refine (ag_new_no c0 c1 c2 c3 c4 c5 c6 c7 c8 c9 _ r _ HC.out HA.out).mono ?_); rintro e w1 ⟨rfl, hb⟩; rw [World.size_alloc] at hb; have HS1 : Aside0 (w.heap.size + 1 ≤ w1.heap.size) := ⟨by have q := hb.size; rw [World.size_alloc] at q; exact q⟩; have HF1 : Aside0 (CF w1 w.heap.size c0 c1 c2 c3 c4 c5 c6 c7 c8 c9) := ⟨CF.kept (heap_alloc_new w _) hb⟩; have HB1 := Aside0.mk (((Below.refl _ w).alloc (Nat.le_refl _) _).trans (b_cut' hb (Nat.le_succ _))); clear hb)
    | (go_at_call 44; (with_reducible refine (ag_awake _).mono ?_); rintro e w8 ⟨rfl, hb⟩; have HB8 := Aside0.mk (below_step HB2.out hb); clear hb))
  go_ret
  exact ⟨rfl, HB8.out⟩
set_option maxHeartbeats 8000000 in
set_option maxRecDepth 100000 in
theorem same_no10 (r : Int) (c0 c1 c2 c3 c4 c5 c6 c7 c8 c9 a1 a2 a6 : Int) (A3 A4 A5 : Option Addr) (len3 cap3 len4 cap4 len5 cap5 : Nat) (w : World) (hc : sched_Check.f 10 c0 c1 c2 c3 c4 c5 c6 c7 c8 c9 = some r) (ha : r = 0 ∧ 0 ≤ a1 ∧ a1 < c0) (hb : r = 1 ∨ (r = 0 ∧ (a2 < 0 ∨ c0 ≤ a2))) :
    Calls Try.prog 10 #[.agg #[.int .i64 c0, .int .i64 c1, .int .i64 c2, .int .i64 c3, .int .i64 c4, .int .i64 c5, .int .i64 c6, .int .i64 c7, .int .i64 c8, .int .i64 c9], .int .i64 a1, .int .i64 a2, .slice A3 len3 cap3, .slice A4 len4 cap4, .slice A5 len5 cap5, .int .u16 a6] w fun e w' => e = .returned (.bool true) ∧ Below w.heap.size w w' := by
  have HC := Aside0.mk hc
  have HA := Aside0.mk ha
  have HB := Aside0.mk hb
  clear hc ha hb
  go_enter Try.func10, Try.ntmps10
  go_wp2_with (first
    | ((with_reducible refine gate_dst (N := 37) rfl ?_); refine wpList_load_row rfl 60 (.tmp 7) rfl w.heap.size rfl 60 #[.int .i64 c0, .int .i64 c1, .int .i64 c2, .int .i64 c3, .int .i64 c4, .int .i64 c5, .int .i64 c6, .int .i64 c7, .int .i64 c8, .int .i64 c9] (0, 0) _ (HF1.out) Try.underlying60 rfl ag_csize ?_; simp only [Act.put, List.setIfInBounds_toArray, List.set_cons_zero, List.set_cons_succ])
    | ((with_reducible refine gate_dst (N := 31) rfl ?_); refine wpList_load_row rfl 60 (.tmp 7) rfl w.heap.size rfl 60 #[.int .i64 c0, .int .i64 c1, .int .i64 c2, .int .i64 c3, .int .i64 c4, .int .i64 c5, .int .i64 c6, .int .i64 c7, .int .i64 c8, .int .i64 c9] (0, 0) _ (heap_alloc_new _ _) Try.underlying60 rfl ag_csize ?_; simp only [Act.put, List.setIfInBounds_toArray, List.set_cons_zero, List.set_cons_succ])
    | (go_at_call 43; have HFs := HF1; (with_reducible refine (ag_new_no c0 c1 c2 c3 c4 c5 c6 c7 c8 c9 _ r _ HC.out HB.out).mono ?_); rintro e w2 ⟨rfl, hb⟩; have HB2 := Aside0.mk (below_step HB1.out hb); clear hb)
    | (go_at_call 43; (with_reducible refine (ag_new c0 c1 c2 c3 c4 c5 c6 c7 c8 c9 _ _ (HC.out.trans (congrArg some HA.out.1)) HA.out.2.1 HA.out.2.2).mono ?_); rintro e w1 ⟨P1, bm1, rfl, _, hb⟩; rw [World.size_alloc] at hb; have HS1 : Aside0 (w.heap.size + 1 ≤ w1.heap.size) := ⟨by have q := hb.size; rw [World.size_alloc] at q; exact q⟩; have HF1 : Aside0 (CF w1 w.heap.size c0 c1 c2 c3 c4 c5 c6 c7 c8 c9) := ⟨CF.kept (heap_alloc_new w _) hb⟩; have HB1 := Aside0.mk (((Below.refl _ w).alloc (Nat.le_refl _) _).trans (b_cut' hb (Nat.le_succ _))); clear hb)
    | (go_at_call 44; (with_reducible refine (ag_awake _).mono ?_); rintro e w8 ⟨rfl, hb⟩; have HB8 := Aside0.mk (below_step HB2.out hb); clear hb))
  go_ret
  exact ⟨rfl, HB8.out⟩
set_option maxHeartbeats 8000000 in
set_option maxRecDepth 100000 in
theorem same_no01 (r : Int) (c0 c1 c2 c3 c4 c5 c6 c7 c8 c9 a1 a2 a6 : Int) (A3 A4 A5 : Option Addr) (len3 cap3 len4 cap4 len5 cap5 : Nat) (w : World) (hc : sched_Check.f 10 c0 c1 c2 c3 c4 c5 c6 c7 c8 c9 = some r) (ha : r = 1 ∨ (r = 0 ∧ (a1 < 0 ∨ c0 ≤ a1))) (hb : r = 0 ∧ 0 ≤ a2 ∧ a2 < c0) :
    Calls Try.prog 10 #[.agg #[.int .i64 c0, .int .i64 c1, .int .i64 c2, .int .i64 c3, .int .i64 c4, .int .i64 c5, .int .i64 c6, .int .i64 c7, .int .i64 c8, .int .i64 c9], .int .i64 a1, .int .i64 a2, .slice A3 len3 cap3, .slice A4 len4 cap4, .slice A5 len5 cap5, .int .u16 a6] w fun e w' => e = .returned (.bool true) ∧ Below w.heap.size w w' := by
  have HC := Aside0.mk hc
  have HA := Aside0.mk ha
  have HB := Aside0.mk hb
  clear hc ha hb
  go_enter Try.func10, Try.ntmps10
  go_wp2_with (first
    | ((with_reducible refine gate_dst (N := 37) rfl ?_); refine wpList_load_row rfl 60 (.tmp 7) rfl w.heap.size rfl 60 #[.int .i64 c0, .int .i64 c1, .int .i64 c2, .int .i64 c3, .int .i64 c4, .int .i64 c5, .int .i64 c6, .int .i64 c7, .int .i64 c8, .int .i64 c9] (0, 0) _ (HF1.out) Try.underlying60 rfl ag_csize ?_; simp only [Act.put, List.setIfInBounds_toArray, List.set_cons_zero, List.set_cons_succ])
    | ((with_reducible refine gate_dst (N := 31) rfl ?_); refine wpList_load_row rfl 60 (.tmp 7) rfl w.heap.size rfl 60 #[.int .i64 c0, .int .i64 c1, .int .i64 c2, .int .i64 c3, .int .i64 c4, .int .i64 c5, .int .i64 c6, .int .i64 c7, .int .i64 c8, .int .i64 c9] (0, 0) _ (heap_alloc_new _ _) Try.underlying60 rfl ag_csize ?_; simp only [Act.put, List.setIfInBounds_toArray, List.set_cons_zero, List.set_cons_succ])
    | (go_at_call 43; have HFs := HF1; (with_reducible refine (ag_new c0 c1 c2 c3 c4 c5 c6 c7 c8 c9 _ _ (HC.out.trans (congrArg some HB.out.1)) HB.out.2.1 HB.out.2.2).mono ?_); rintro e w2 ⟨P2, bm2, rfl, _, hb⟩; have HB2 := Aside0.mk (below_step HB1.out hb); clear hb)
    | (go_at_call 43; (with_reducible refine (ag_new_no c0 c1 c2 c3 c4 c5 c6 c7 c8 c9 _ r _ HC.out HA.out).mono ?_); rintro e w1 ⟨rfl, hb⟩; rw [World.size_alloc] at hb; have HS1 : Aside0 (w.heap.size + 1 ≤ w1.heap.size) := ⟨by have q := hb.size; rw [World.size_alloc] at q; exact q⟩; have HF1 : Aside0 (CF w1 w.heap.size c0 c1 c2 c3 c4 c5 c6 c7 c8 c9) := ⟨CF.kept (heap_alloc_new w _) hb⟩; have HB1 := Aside0.mk (((Below.refl _ w).alloc (Nat.le_refl _) _).trans (b_cut' hb (Nat.le_succ _))); clear hb)
    | (go_at_call 44; (with_reducible refine (ag_awake _).mono ?_); rintro e w8 ⟨rfl, hb⟩; have HB8 := Aside0.mk (below_step HB2.out hb); clear hb))
  go_ret
  exact ⟨rfl, HB8.out⟩
theorem u8_b {l : List Int} (h : ∀ x ∈ l, (Lit.int .u8 x).wf = true) : ∀ x ∈ l, 0 ≤ x ∧ x < 256 := fun x hx => by
  have q := h x hx
  simp only [Lit.wf, Bool.and_eq_true, decide_eq_true_eq, show IntKind.u8.min = 0 from rfl, show IntKind.u8.max = 255 from rfl] at q
  omega
theorem same_K (c0 : Int) (n3 n4 n5 : Nat) (h : 1 ≤ c0) : ∃ K : Nat, (K : Int) ≤ c0 ∧ K ≤ n3 ∧ K ≤ n4 ∧ K ≤ n5 ∧ (¬ (K : Int) < c0 ∨ ((K : Int) < c0 ∧ ¬ (K : Int) < (n3 : Int)) ∨ ((K : Int) < c0 ∧ (K : Int) < (n3 : Int) ∧ ¬ (K : Int) < (n4 : Int)) ∨ ((K : Int) < c0 ∧ (K : Int) < (n3 : Int) ∧ (K : Int) < (n4 : Int) ∧ ¬ (K : Int) < (n5 : Int))) :=
  ⟨min (min c0.toNat n3) (min n4 n5), by omega, by omega, by omega, by omega, by omega⟩
theorem AgreeSame : carillonlaw27_AgreeSame.Pure := by
  intro a0 a1 a2 A3 cap3 l3 A4 cap4 l4 A5 cap5 l5 a6 w w0 w1 w2 hr3 hc3 hm3 y3 hw3 hr4 hc4 hm4 y4 hw4 hr5 hc5 hm5 y5 hw5 w6
  obtain ⟨hl, _⟩ := w0
  match a0, hl with
  | [c0, c1, c2, c3, c4, c5, c6, c7, c8, c9], _ =>
    show Calls Try.prog 10 #[.agg #[.int .i64 c0, .int .i64 c1, .int .i64 c2, .int .i64 c3, .int .i64 c4, .int .i64 c5, .int .i64 c6, .int .i64 c7, .int .i64 c8, .int .i64 c9], .int .i64 a1, .int .i64 a2, .slice A3 l3.length cap3, .slice A4 l4.length cap4, .slice A5 l5.length cap5, .int .u16 a6] w fun e w' => e = .returned (.bool true) ∧ Below w.heap.size w w'
    have h6 : 0 ≤ a6 ∧ a6 < 65536 := by
      have q1 := w6
      simp only [Lit.wf, Bool.and_eq_true, decide_eq_true_eq, show IntKind.u16.min = 0 from rfl, show IntKind.u16.max = 65535 from rfl] at q1
      omega
    obtain ⟨r, hr, hcase⟩ := check_is c0 c1 c2 c3 c4 c5 c6 c7 c8 c9
    by_cases g1 : r = 0 ∧ 0 ≤ a1 ∧ a1 < c0
    · by_cases g2 : r = 0 ∧ 0 ≤ a2 ∧ a2 < c0
      · rcases hcase with h1 | ⟨h0, hA, hB2, hD⟩
        · omega
        · obtain ⟨iN, rfl⟩ : ∃ iN : Nat, a1 = (iN : Int) := ⟨a1.toNat, by omega⟩
          obtain ⟨jN, rfl⟩ : ∃ jN : Nat, a2 = (jN : Int) := ⟨a2.toNat, by omega⟩
          rw [h0] at hr
          obtain ⟨K, k0, k1, k2, k3, k4⟩ := same_K c0 l3.length l4.length l5.length hA.1
          exact same_main K iN jN _ _ _ c0 c1 c2 c3 c4 c5 c6 c7 c8 c9 a6 A3 A4 A5 cap3 cap4 cap5 l3 l4 l5 w hr hA ⟨hB2.1, hB2.2.1⟩ hD g1.2.2 g2.2.2 hr3 (u8_b hw3) hr4 (u8_b hw4) hr5 (u8_b hw5) h6 k0 k1 k2 k3 (by omega) (by omega) (by omega) k4
      · exact same_no10 r _ _ _ _ _ _ _ _ _ _ _ _ _ _ _ _ _ _ _ _ _ _ _ hr g1 (by omega)
    · by_cases g2 : r = 0 ∧ 0 ≤ a2 ∧ a2 < c0
      · exact same_no01 r _ _ _ _ _ _ _ _ _ _ _ _ _ _ _ _ _ _ _ _ _ _ _ hr (by omega) g2
      · exact same_no00 r _ _ _ _ _ _ _ _ _ _ _ _ _ _ _ _ _ _ _ _ _ _ _ hr (by omega) (by omega)
end Go.Proofs.Ytbkchjiiaehhpaa.Pure
