-- WORDS
import Derived.Test.YtecaifadcggijaaWWords
import Derived.Test.YtecaifadcggijaaWMore
import Derived.SizedLaws
import Derived.Deep.Matrix
namespace Go.Proofs.YtecaifadcggijaaW.PrintMore
open Go.RowKit Go.ChangeShapes Go.WideShapes Go.Deep Go.Proofs.YtecaifadcggijaaW.PrintWords
set_option linter.unusedVariables false
set_option linter.unusedSimpArgs false
/-! Arguments that are slices of slices of whole numbers. -/
theorem weights_all {H : Type} {P : Program} {e : TypeId} : ∀ {l : List (DataW H)} {d : DataW H}, d ∈ l → ∀ n ∈ d.weights P e, n ∈ DataW.weightsAll P e l
  | d0 :: l, d, hd, n, hn => by
    simp only [DataW.weightsAll, List.mem_append]
    rcases List.mem_cons.1 hd with rfl | hd
    · exact .inl hn
    · exact .inr (weights_all hd n hn)
  | [], _, hd, _, _ => by simp at hd
theorem rows_arg {H : Type} {enc : TypeId × Value → H} {P : Program} {W : World} {base : Nat} {held : Bool} {t e q : TypeId} {k : IntKind} {a : Option Addr} {len cap : Nat} {d : DataW H} {ps : List MemPlace} {ts : List TypeId} {ds : List (DataW H)} {j : Nat}
    (hsz : (DataW.weightsEach P ts ds).all (· ≤ reachBytes) = true) (ht : ts[j]? = some t) (hd : ds[j]? = some d) (hu : P.underlying t = some (.slice e)) (he : P.underlying e = some (.slice q)) (hq : P.underlying q = some (.int k)) (ce : P.cellsOf e = 1) (cq : P.cellsOf q = 1) {B0 B : Nat} (hB0 : P.bytesOf e = B0) (hB : P.bytesOf q = B)
    (h : DataW.Trod enc P W base (fun _ => true) held t (.slice a len cap) d ps) :
    ∃ ll : List (List Int), len = ll.length ∧ Kd.C (Kd.slice q (Kd.int k)) W a len ll ∧ len ≤ cap ∧ len ≤ maxLen ∧ len * B0 ≤ 140737488351232 ∧ ∀ r ∈ ll, r.length * B ≤ 140737488351232 ∧ ∀ x ∈ r, (Lit.int k x).wf = true := by
  obtain ⟨fuel, hf⟩ := h
  rcases open_int_rows hu he hq ce cq hf with ⟨hcs, _⟩ | ⟨x, l, c, A, L, C, Z, hcs, _, hl, hm, hx, hr⟩
  · simp [Value.cells] at hcs
    obtain ⟨rfl, rfl, rfl⟩ := hcs
    exact ⟨[], rfl, Kd.C_nil _ _, Nat.le_refl _, by unfold maxLen; omega, by omega, by simp⟩
  · simp [Value.cells] at hcs
    obtain ⟨rfl, rfl, rfl⟩ := hcs
    obtain ⟨hx, _⟩ := Prod.mk.inj hx
    subst hx
    have hlen : ∀ r, r < cap → ((Z r).take (L r)).length = L r := fun r hrc => by
      obtain ⟨_, h1, _, h2, _⟩ := hr r hrc
      rw [List.length_take]; omega
    refine ⟨(List.range len).map fun r => (Z r).take (L r), by simp, ⟨by simp, by unfold maxLen at hm; omega, fun hpos => ⟨x, rfl, ?_⟩⟩, hl, by omega, ?_, ?_⟩
    · intro j' p hp
      obtain ⟨hj, rfl⟩ : j' < len ∧ (Z j').take (L j') = p := by
        rw [List.getElem?_map] at hp
        obtain ⟨r, hr1, hr2⟩ := Option.map_eq_some_iff.1 hp
        obtain ⟨hlt, he'⟩ := List.getElem?_eq_some_iff.1 hr1
        simp at hlt he'
        subst he'
        exact ⟨hlt, hr2⟩
      obtain ⟨h0, h1, h2, h3, h4, h5, h6⟩ := hr j' (by omega)
      refine ⟨[.slice (A j') (L j') (C j')], rfl, ⟨A j', C j', by rw [hlen j' (by omega)], by rw [hlen j' (by omega)]; exact h1, ?_⟩, ?_⟩
      · rw [hlen j' (by omega)]
        refine Kd.C_of_reads (d := (0 : Int)) (h1 := fun _ => rfl) ⟨hlen j' (by omega), by unfold maxLen at h2; omega, fun hp0 => ?_⟩
        obtain ⟨ad, had⟩ : ∃ ad, A j' = some ad := by
          rcases hA : A j' with _ | ad
          · have := h5 hA; omega
          · exact ⟨ad, rfl⟩
        refine ⟨ad, had, fun i hi => ?_⟩
        rw [(h6 ad had).2 i (by omega)]
        simp [List.getD_eq_getElem?_getD, List.getElem?_take, hi]
      · intro i u hu'
        have hi : i = 0 := by
          have := (List.getElem?_eq_some_iff.1 hu').1
          simp at this; omega
        subst hi
        simp at hu'
        subst hu'
        have e1 : j' * (Kd.slice q (Kd.int k)).sz + 0 = j' := by show j' * 1 + 0 = j'; omega
        rw [e1]; exact h0
    · have z := sized_slice hsz ht hd hu
      rw [hB0] at z
      simp at z
      have h8 : len * B0 ≤ (len + (cap - len)) * B0 := Nat.mul_le_mul_right _ (by omega)
      exact Nat.le_trans h8 z
    · intro r hrm
      obtain ⟨j', hj, rfl⟩ := List.mem_map.1 hrm
      have hj' := List.mem_range.1 hj
      obtain ⟨h0, h1, h2, h3, h4, h5, h6⟩ := hr j' (by omega)
      refine ⟨?_, fun x hx => h4 x (List.mem_of_mem_take hx)⟩
      rw [hlen j' (by omega)]
      rcases hA : A j' with _ | ad
      · have := h5 hA
        have h9 : L j' = 0 := by omega
        rw [h9]; omega
      · have hin : intRow (H := H) k (A j') (L j') (Z j') ∈ ((List.range len).map fun r => intRow (H := H) k (A r) (L r) (Z r)) := List.mem_map.2 ⟨j', hj, rfl⟩
        have hw : ((Z j').length * B) ∈ (intRow (H := H) k (A j') (L j') (Z j')).weights P e := by
          rw [hA]
          simp only [intRow, DataW.weights, he, hB]
          refine List.mem_cons.2 (.inl ?_)
          simp [lits]
          congr 1
          omega
        have hmem := List.all_eq_true.1 hsz _ (DataW.weights_mem_each ht hd ((Z j').length * B) (by
          simp only [DataW.weights, hu]
          exact List.mem_cons.2 (.inr (List.mem_append.2 (.inl (weights_all hin _ hw))))))
        have hle : L j' * B ≤ (Z j').length * B := Nat.mul_le_mul_right _ (by omega)
        have hre : (Z j').length * B ≤ reachBytes := by simpa using hmem
        exact Nat.le_trans hle hre
end Go.Proofs.YtecaifadcggijaaW.PrintMore
