-- WORDS
import Derived.Test.YtbkchjiiaehhpaaWWords
import Derived.Test.YtbkchjiiaehhpaaWMore
import Derived.SizedLaws
import Derived.Lib.SmallJoins
namespace Go.Proofs.YtbkchjiiaehhpaaW.PrintMore
open Go.RowKit Go.ChangeShapes Go.WideShapes Go.ChangeAt Go.Proofs.YtbkchjiiaehhpaaW.PrintWords
set_option linter.unusedVariables false
set_option linter.unusedSimpArgs false
/-! Arguments that are structs of whole numbers. -/
theorem ints_of : ∀ L : List Value, (∀ (j : Nat) (u : Value), L[j]? = some u → ∃ a : Int, u = Value.int .i64 a ∧ (Lit.int IntKind.i64 a).wf = true) → ∃ xs : List Int, L = nums .i64 xs ∧ ∀ x ∈ xs, (Lit.int .i64 x).wf = true
  | [], _ => ⟨[], rfl, by simp⟩
  | u :: L, h => by
    obtain ⟨a, rfl, ha⟩ := h 0 u rfl
    obtain ⟨xs, rfl, hx⟩ := ints_of L (fun j u hj => h (j + 1) u (by simpa using hj))
    refine ⟨a :: xs, rfl, fun x hm => ?_⟩
    rcases List.mem_cons.1 hm with rfl | hm
    · exact ha
    · exact hx x hm
theorem struct_ints {H : Type} {enc : TypeId × Value → H} {P : Program} {W : World} {r : Reach} {b0 base : Nat} {spare : Nat → Bool} {held : Bool} {t : TypeId} {fs : Array Field} {v : Value} {d : DataW H} {p : List MemPlace} (hs : P.underlying t = some (.struct fs))
    (hf : (List.range fs.size).all (fun j => match fs[j]? with | some f => f.offset == j && (P.cellsOf f.type == 1) && (match P.underlying f.type with | some (.int .i64) => true | _ => false) | none => false) = true)
    (hC : P.cellsOf t = fs.size) (hv : Value.okWide P W r b0 t v) (h : DataW.Trod enc P W base spare held t v d p) :
    ∃ xs : List Int, xs.length = fs.size ∧ v = .agg (nums .i64 xs).toArray ∧ ∀ x ∈ xs, (Lit.int .i64 x).wf = true := by
  obtain ⟨cs, rfl, hsz⟩ := okWide_struct hs hv
  obtain ⟨fuel, hf'⟩ := h
  obtain ⟨ys, n, _, _, hl, hlen, hfield⟩ := DataW.trod_struct hs hf'
  have hcs : (Value.agg cs).cells.toList = cs.toList := rfl
  have hL : ∀ (j : Nat) (u : Value), cs.toList[j]? = some u → ∃ a : Int, u = Value.int .i64 a ∧ (Lit.int IntKind.i64 a).wf = true := by
    intro j u hu
    have hj : j < fs.size := by
      have := (List.getElem?_eq_some_iff.1 hu).1
      simp at this
      omega
    have q := List.all_eq_true.1 hf j (List.mem_range.2 hj)
    split at q
    · rename_i f hfj
      simp only [Bool.and_eq_true, beq_iff_eq] at q
      obtain ⟨⟨q1, q2⟩, q3⟩ := q
      split at q3
      · rename_i hu3
        have g := hfield j f hfj
        rw [q1, q2, hcs] at g
        obtain ⟨y, hy⟩ : ∃ y, ys[j]? = some y := ⟨ys[j]'(by omega), List.getElem?_eq_getElem (by omega)⟩
        rw [hy] at g
        have e : (cs.toList.drop j).take 1 = [u] := by
          obtain ⟨hlt, hue⟩ := List.getElem?_eq_some_iff.1 hu
          rw [List.drop_eq_getElem_cons hlt, List.take_succ_cons, List.take_zero, hue]
        rw [e] at g
        obtain ⟨a, ha, _, hw⟩ := DataW.trod_int hu3 g
        obtain rfl : u = .int .i64 a := by simpa using ha
        exact ⟨a, rfl, hw⟩
      · cases q3
    · cases q
  obtain ⟨xs, hx, hw⟩ := ints_of cs.toList hL
  refine ⟨xs, ?_, ?_, hw⟩
  · have := congrArg List.length hx
    simp [nums] at this
    omega
  · rw [← hx]
end Go.Proofs.YtbkchjiiaehhpaaW.PrintMore
