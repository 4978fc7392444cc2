/- Proved: carillonlaw26.ViewBack returns true: a view's text is read as it, and its nodes make it; a text that is read is that of its view. Conditions: none. -/
import Derived.Test.YtaoiamifofkklaaPViewBx2
import Derived.Test.YtaoiamifofkklaaX1Pure
namespace Go.Proofs.Ytaoiamifofkklaa.Pure
open Go.RowKit Go.Proofs.Ytaoiamifofkklaa.PViewB Go.Proofs.YtaoiamifofkklaaW.PrintWords Go.Proofs.YtaoiamifofkklaaW.PrintLast Go.Proofs.YtaoiamifofkklaaW.PrintMore
set_option linter.unusedVariables false
set_option linter.unusedSimpArgs false
def txt (n : Nat) : List UInt8 := match view_Text.f 20 (n : Int) with | some (t, _) => t.data.toList | none => []
def lastOf (n : Nat) : Int := (List.range 8).foldl (fun a i => if n.testBit i then (i : Int) else a) (-1)
def chkA (v : Int) : Bool := match view_Text.f 20 v with
  | some (t, e) => decide (e = 0) && (match view_Parse.f t with | some (x, n, f) => decide (f = 0 ∧ n = (t.size : Int) ∧ x = v) | none => false) && (match view_List.f 20 v with | some l => decide (view_Of.f 20 l = some (v, 0)) | none => false)
  | none => false
set_option maxRecDepth 1000000 in
theorem chkA_all : ∀ v : Fin 256, chkA (v.val : Int) = true := by decide +kernel
def chkS (n i : Nat) : Bool := !(decide (lastOf n < (i : Int))) || (decide (txt (n ||| 1 <<< i) = (if n = 0 then [] else txt n ++ [44]) ++ [UInt8.ofNat (48 + i)]) && decide (n ||| 1 <<< i < 256) && decide (n ||| 1 <<< i ≠ 0) && decide (lastOf (n ||| 1 <<< i) = (i : Int)) && decide (Go.bits .or .i64 (n : Int) (wrap64 (2 ^ i)) = ((n ||| 1 <<< i : Nat) : Int)))
set_option maxRecDepth 1000000 in
theorem chkS_all : ∀ n : Fin 256, ∀ i : Fin 8, chkS n.val i.val = true := by decide +kernel
theorem chkS_at {n i : Nat} (hn : n < 256) (hi : i < 8) (hl : lastOf n < (i : Int)) : txt (n ||| 1 <<< i) = (if n = 0 then [] else txt n ++ [44]) ++ [UInt8.ofNat (48 + i)] ∧ n ||| 1 <<< i < 256 ∧ n ||| 1 <<< i ≠ 0 ∧ lastOf (n ||| 1 <<< i) = (i : Int) ∧ Go.bits .or .i64 (n : Int) (wrap64 (2 ^ i)) = ((n ||| 1 <<< i : Nat) : Int) := by
  have h := chkS_all ⟨n, hn⟩ ⟨i, hi⟩
  unfold chkS at h
  simp only [decide_eq_true hl, Bool.not_true, Bool.false_or, Bool.and_eq_true, decide_eq_true_eq] at h
  exact ⟨h.1.1.1.1, h.1.1.1.2, h.1.1.2, h.1.2, h.2⟩
theorem txt_of {n : Nat} (hn : n < 256) : view_Text.f 20 (n : Int) = some (⟨(txt n).toArray⟩, 0) := by
  have h := chkA_all ⟨n, hn⟩
  unfold chkA at h
  unfold txt
  cases ht : view_Text.f 20 (n : Int) with
  | none => simp only [ht] at h; cases h
  | some p =>
    obtain ⟨t, e⟩ := p
    simp only [ht, Bool.and_eq_true, decide_eq_true_eq] at h
    rw [h.1.1]
  
def Inv (s : ByteArray) (pos : Nat) (v last : Int) (digit : Bool) : Prop :=
  ∃ n : Nat, v = (n : Int) ∧ n < 256 ∧ last = lastOf n ∧ pos ≤ s.size ∧ (digit = true → s.data.toList.take pos = (if n = 0 then [] else txt n ++ [44])) ∧ (digit = false → n ≠ 0 ∧ s.data.toList.take pos = txt n)
theorem take_more (s : ByteArray) (pos : Nat) (h : pos < s.size) : s.data.toList.take (pos + 1) = s.data.toList.take pos ++ [s[pos]'h] := by
  rw [List.take_succ_eq_append_getElem (by simpa using h)]
  rfl
theorem go_ok (s : ByteArray) : ∀ (fuel pos : Nat) (v last : Int) (digit : Bool) (x n f : Int), Inv s pos v last digit → s.size < pos + fuel → view_Parse.go s fuel pos v last digit = (x, n, f) →
    (f = 0 ∧ ∃ m : Nat, x = (m : Int) ∧ m < 256 ∧ s.data.toList = txt m) ∨ (f ≠ 0 ∧ x = 0)
  | 0, pos, v, last, digit, x, n, f, hI, hf, h => by
    obtain ⟨_, _, _, _, hp, _⟩ := hI
    omega
  | fuel + 1, pos, v, last, digit, x, n, f, hI, hf, h => by
    obtain ⟨m, rfl, hm, hlast, hp, h1, h2⟩ := hI
    by_cases hlt : pos < s.size
    · rw [view_Parse.go, if_pos hlt] at h
      by_cases ha : (s[pos]'hlt).toNat < 128
      · rw [decode_ascii s pos hlt ha] at h
        obtain ⟨c, hc⟩ : ∃ c, (s[pos]'hlt).toNat = c := ⟨_, rfl⟩
        simp only [hc] at h
        by_cases k1 : digit = true ∧ (0 ≤ (c : Int) - 48 ∧ (c : Int) - 48 < 8) ∧ last < (c : Int) - 48
        · rw [if_pos k1] at h
          obtain ⟨rfl, ⟨q1, q2⟩, q3⟩ := k1
          obtain ⟨i, rfl⟩ : ∃ i, c = i + 48 := ⟨c - 48, by omega⟩
          have e1 : (((i + 48 : Nat) : Int) - 48) = (i : Int) := by omega
          rw [e1] at h q3
          rw [show i + 48 - 48 = i by omega] at h
          rw [hlast] at q3
          obtain ⟨a1, a2, a3, a4, a5⟩ := chkS_at hm (by omega) q3
          rw [a5] at h
          refine go_ok s fuel (pos + 1) _ _ false x n f ⟨_, rfl, a2, a4.symm, by omega, by simp, fun _ => ⟨a3, ?_⟩⟩ (by omega) h
          rw [take_more s pos hlt, h1 rfl, a1]
          congr 2
          apply UInt8.toNat_inj.1
          rw [hc, UInt8.toNat_ofNat']
          omega
        · rw [if_neg k1] at h
          by_cases k2 : digit = false ∧ (c : Int) = 44
          · rw [if_pos k2] at h
            obtain ⟨rfl, q1⟩ := k2
            obtain ⟨b1, b2⟩ := h2 rfl
            refine go_ok s fuel (pos + 1) _ _ true x n f ⟨m, rfl, hm, hlast, by omega, fun _ => ?_, by simp⟩ (by omega) h
            rw [take_more s pos hlt, b2, if_neg b1]
            congr 2
            apply UInt8.toNat_inj.1
            rw [hc]
            show c = 44
            omega
          · rw [if_neg k2] at h
            injection h with h3 h4
            injection h4 with h4 h5
            exact .inr ⟨by omega, h3.symm⟩
      · have hh := decode_high s pos hlt (by omega)
        rw [if_neg (by rintro ⟨_, ⟨_, q⟩, _⟩; omega), if_neg (by rintro ⟨_, q⟩; omega)] at h
        injection h with h3 h4
        injection h4 with h4 h5
        exact .inr ⟨by omega, h3.symm⟩
    · rw [view_Parse.go, if_neg hlt] at h
      unfold view_Parse.fin at h
      have hps : pos = s.size := by omega
      have hall : s.data.toList.take pos = s.data.toList := List.take_of_length_le (by rw [hps]; simp)
      cases digit
      · rw [if_neg (by decide)] at h
        injection h with h3 h4
        injection h4 with h4 h5
        have := (h2 rfl).2
        rw [hall] at this
        exact .inl ⟨h5.symm, m, h3.symm, hm, this⟩
      · rw [if_pos rfl] at h
        injection h with h3 h4
        injection h4 with h4 h5
        exact .inr ⟨by omega, h3.symm⟩
theorem parse_ok (s : ByteArray) (hs : s.size ≤ 140737488351232) : ∃ x n f, view_Parse.f s = some (x, n, f) ∧ ((f = 0 ∧ ∃ m : Nat, x = (m : Int) ∧ m < 256 ∧ s.data.toList = txt m) ∨ (f ≠ 0 ∧ x = 0)) := by
  unfold view_Parse.f
  rw [if_pos (by omega)]
  by_cases hd : s.data.toList = [45]
  · rw [if_pos hd]
    exact ⟨_, _, _, rfl, .inl ⟨rfl, 0, rfl, by omega, by rw [hd]; decide +kernel⟩⟩
  · rw [if_neg hd]
    exact ⟨_, _, _, rfl, go_ok s (s.size + 1) 0 0 (-1) true _ _ _ ⟨0, rfl, by omega, by decide +kernel, by omega, fun _ => by simp, by simp⟩ (by omega) rfl⟩
theorem back_awake : (carillonlaw26_awake.f.bind fun t => some t) = some true := by decide +kernel
theorem back_j0 (s : ByteArray) (hs : s.size ≤ 140737488351232) : carillonlaw26_ViewBack.j0 21 s = some true := by
  obtain ⟨x, n, f, hp, h⟩ := parse_ok s hs
  rw [carillonlaw26_ViewBack.j0]
  refine bind_to hp ?_
  rcases h with ⟨rfl, m, rfl, hm, hsm⟩ | ⟨hf, rfl⟩
  · rw [if_pos rfl]
    refine bind_to (txt_of hm) ?_
    rw [if_pos rfl, if_pos (by rw [ByteArray.toList_eq, ByteArray.toList_eq, hsm])]
    exact back_awake
  · rw [if_neg hf, if_pos rfl]
    exact back_awake
theorem ViewBack : carillonlaw26_ViewBack.Pure := by
  intro v s hv hs
  refine ⟨21, ?_⟩
  have hj := back_j0 s hs
  unfold carillonlaw26_ViewBack.f
  by_cases h1 : 0 ≤ v ∧ v ≤ 255
  · obtain ⟨n, rfl⟩ : ∃ n : Nat, v = (n : Int) := ⟨v.toNat, by omega⟩
    have h := chkA_all ⟨n, by omega⟩
    unfold chkA at h
    cases ht : view_Text.f 20 (n : Int) with
    | none => simp only [ht] at h; cases h
    | some p =>
      obtain ⟨t, e⟩ := p
      simp only [ht, Bool.and_eq_true, decide_eq_true_eq] at h
      obtain ⟨⟨rfl, h2⟩, h3⟩ := h
      cases hq : view_Parse.f t with
      | none => rw [hq] at h2; cases h2
      | some q =>
        obtain ⟨x, m, f⟩ := q
        simp only [hq, decide_eq_true_eq] at h2
        obtain ⟨rfl, rfl, rfl⟩ := h2
        cases hl : view_List.f 20 (n : Int) with
        | none => rw [hl] at h3; cases h3
        | some l =>
          simp only [hl, decide_eq_true_eq] at h3
          refine bind_to (view_Text.mono _ 20 _ ht) ?_
          rw [if_pos rfl]
          refine bind_to hq ?_
          refine bind_to (view_List.mono _ 20 _ hl) ?_
          refine bind_to (view_Of.mono _ 20 _ h3) ?_
          rw [if_pos rfl, if_pos rfl, if_pos rfl, if_pos rfl, if_pos rfl]
          exact hj
  · have e1 : view_isView.f v = some false := by
      unfold view_isView.f
      by_cases h0 : v ≥ 0
      · rw [if_pos h0]; congr 1; exact decide_eq_false (by omega)
      · rw [if_neg h0]
    have e2 : view_Text.f 21 v = some ((⟨#[]⟩ : ByteArray), 1) := by
      unfold view_Text.f
      rw [e1]
      rfl
    refine bind_to e2 ?_
    rw [if_neg (by decide)]
    exact hj
end Go.Proofs.Ytaoiamifofkklaa.Pure
