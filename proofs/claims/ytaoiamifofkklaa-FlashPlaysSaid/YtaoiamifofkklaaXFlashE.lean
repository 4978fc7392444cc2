/- Contracts of Go functions that the claims of this seat share. -/
import Derived.Test.YtaoiamifofkklaaProg
import Derived.Below
import Derived.Deep.Draws
import Derived.Deep.AppendLies
import Derived.Maps.AppendAt
import Derived.OwnWalk
import Derived.Laws.BytesArg
import Derived.Laws.MakeOwn
import Derived.Laws.OwnMore
import Derived.Deep.OwnRows
import Derived.Tactics
import Derived.Lib.ConvBytes
import Derived.Laws.Slices
import Derived.WalkKit
import Derived.KernelRfl
import Derived.RowKit3
import Derived.Deep.LoopGhost
import Derived.Deep.QuietTactic
import Derived.BigQuiet
import Derived.WideLaws
import Derived.Deep.DeepCutAuto
import Derived.Deep.CutBlock
import Derived.Deep.RegionHeld3
import Derived.Laws.Rows
import Derived.Lib.AppendStr
import Derived.ArgAppend
import Derived.Laws.IdiomCopy
import Derived.OrdersHeld
import Derived.Laws.BitsLemmas
import Derived.RowKit
import Derived.Test.YtaoiamifofkklaaWWords
import Derived.Test.YtaoiamifofkklaaWLast
import Derived.Test.YtaoiamifofkklaaWTab
import Derived.Test.YtaoiamifofkklaaWFour
import Derived.Test.YtaoiamifofkklaaWQPut
import Derived.Test.YtaoiamifofkklaaWApart
import Derived.Test.YtaoiamifofkklaaWArr
import Derived.Test.YtaoiamifofkklaaWZeros
import Derived.Test.YtaoiamifofkklaaWFoot
import Derived.Test.YtaoiamifofkklaaWKept
import Derived.Test.YtaoiamifofkklaaWShare
import Derived.Test.YtaoiamifofkklaaWN
import Derived.Test.YtaoiamifofkklaaWFootNe
import Derived.Test.YtaoiamifofkklaaWAt
import Derived.Test.YtaoiamifofkklaaWEqStruct
import Derived.Test.YtaoiamifofkklaaWRepsOne
import Derived.Test.YtaoiamifofkklaaWInv
import Derived.Test.YtaoiamifofkklaaWInvWords
import Derived.Test.YtaoiamifofkklaaWGuard
import Derived.Test.YtaoiamifofkklaaWNEv
import Derived.Test.YtaoiamifofkklaaWMore
import Derived.Test.YtaoiamifofkklaaX0Mem
import Derived.Test.YtaoiamifofkklaaX1Pure
import Derived.Test.YtaoiamifofkklaaXFlashD
namespace Go.Proofs.Ytaoiamifofkklaa.Obj
open Go.RowKit Go.Proofs.YtaoiamifofkklaaW.PrintWords Go.Proofs.YtaoiamifofkklaaW.PrintLast Go.Proofs.YtaoiamifofkklaaW.PrintMore
set_option linter.unusedVariables false
set_option linter.unusedSimpArgs false
def fwE (is : Bool) (sk : Int) (dead : Bool) (len : Nat) (a : Int) (m : Nat) : Int := if mayV dead len a m = 0 then (if dueV is sk = true then 5 else 0) else mayV dead len a m
def fwK (is : Bool) (sk n : Int) (m : Nat) : Nat := if dueV is sk = true then (if n < (m : Int) then n else (m : Int)).toNat else m
def fwB (is : Bool) (sk n : Int) (dead : Bool) (b : List Int) (a : Int) (xs : List Int) : List Int := if mayV dead b.length a xs.length = 0 then wrB b a.toNat (xs.take (fwK is sk n xs.length)) else b
def fwIs (is : Bool) (sk : Int) (dead : Bool) (len : Nat) (a : Int) (m : Nat) : Bool := if mayV dead len a m = 0 then dueIs is sk else is
def fwSk (is : Bool) (sk : Int) (dead : Bool) (len : Nat) (a : Int) (m : Nat) : Int := if mayV dead len a m = 0 then dueSk is sk else sk
def fwD (is : Bool) (sk : Int) (dead : Bool) (len : Nat) (a : Int) (m : Nat) : Bool := if mayV dead len a m = 0 then dueV is sk else dead
def fwN (wr : Int) (dead : Bool) (len : Nat) (a : Int) (m : Nat) : Int := if mayV dead len a m = 0 then wr + 1 else wr
theorem fwB_len (is : Bool) (sk n : Int) (dead : Bool) (b : List Int) (a : Int) (xs : List Int) : (fwB is sk n dead b a xs).length = b.length := by
  unfold fwB
  by_cases hz : mayV dead b.length a xs.length = 0
  · obtain ⟨_, c1, c2, c3, c4⟩ := mayV_zero hz
    rw [if_pos hz]
    exact wrB_len (by rw [List.length_take]; omega)
  · rw [if_neg hz]
theorem fwSk_le {is : Bool} {sk : Int} (dead : Bool) (len : Nat) (a : Int) (m : Nat) (h : 0 ≤ sk ∧ sk ≤ 9223372036854775807) : 0 ≤ fwSk is sk dead len a m ∧ fwSk is sk dead len a m ≤ 9223372036854775807 := by
  unfold fwSk dueSk
  repeat (first | omega | split)
theorem fwN_le {wr : Int} (dead : Bool) (len : Nat) (a : Int) (m : Nat) {k : Int} (h : 0 ≤ wr ∧ wr ≤ k) : 0 ≤ fwN wr dead len a m ∧ fwN wr dead len a m ≤ k + 1 := by
  unfold fwN
  split <;> omega
theorem fl_writeF (B : Nat) (base : Nat) (v : Value) (b : List Int) (is : Bool) (sk n : Int) (dead : Bool) (wr : Int) (at_ : Int) (A : Option Addr) (m c : Nat) (xs : List Int) (w : World) (h : Fl w base B v b is sk n dead wr) (hl : b.length ≤ 4096)
    (hsk : 0 ≤ sk ∧ sk ≤ 9223372036854775807) (hn : 0 ≤ n) (hwr : 0 ≤ wr ∧ wr ≤ 4611686018427387904) (hA : ∀ W', KeepBut w W' B v.ownBlock → Kd.C (Kd.int .u8) W' A m xs) (hmc : m ≤ c) :
    Calls Try.prog 25 #[.pointer (some ⟨B, 0, none⟩), .int .i64 at_, .slice A m c] w fun e w' => e = .returned (.int .i64 (fwE is sk dead b.length at_ m)) ∧ Fl w' base B v (fwB is sk n dead b at_ xs) (fwIs is sk dead b.length at_ m) (fwSk is sk dead b.length at_ m) n (fwD is sk dead b.length at_ m) (fwN wr dead b.length at_ m) ∧ KeepBut w w' B v.ownBlock ∧ Below base w w' := by
  have hxl : xs.length = m := (hA w (KeepBut.refl _ _ _)).1
  by_cases hz : mayV dead b.length at_ m = 0
  · have hz' : mayV dead b.length at_ xs.length = 0 := by rw [hxl]; exact hz
    obtain ⟨rfl, c1, c2, c3, c4⟩ := mayV_zero hz
    obtain ⟨a, rfl⟩ : ∃ q : Nat, at_ = (q : Int) := ⟨at_.toNat, by omega⟩
    unfold fwE fwB fwIs fwSk fwD fwN
    rw [if_pos hz, if_pos hz', if_pos hz, if_pos hz, if_pos hz, if_pos hz, Int.toNat_natCast]
    by_cases hd : dueV is sk = true
    · have e1 : fwK is sk n xs.length = (if n < (m : Int) then n else (m : Int)).toNat := by unfold fwK; rw [if_pos hd, hxl]
      rw [if_pos hd, e1, hd]
      exact fl_write_torn B base v b is sk n wr a A m c _ xs w h hl hsk hwr hA hmc (by omega) hd (by split <;> omega)
    · have e1 : fwK is sk n xs.length = xs.length := by unfold fwK; rw [if_neg hd]
      rw [if_neg hd, e1, List.take_of_length_le (Nat.le_refl _), Bool.eq_false_iff.2 hd]
      exact fl_write_ok B base v b is sk n wr a A m c xs w h hl hsk hwr hA (by omega) (Bool.eq_false_iff.2 hd)
  · have hz' : ¬ mayV dead b.length at_ xs.length = 0 := by rw [hxl]; exact hz
    unfold fwE fwB fwIs fwSk fwD fwN
    rw [if_neg hz, if_neg hz', if_neg hz, if_neg hz, if_neg hz, if_neg hz]
    exact (fl_write_no B base v b is sk n dead wr at_ A m c w h hl hz).mono (by rintro e w' ⟨rfl, rfl⟩; exact ⟨rfl, h, KeepBut.refl _ _ _, Below.refl _ _⟩)
theorem rf_writeF (B : Nat) (base : Nat) (v : Value) (b : List Int) (is : Bool) (sk n skip torn : Int) (dead : Bool) (wr : Int) (at_ : Int) (A : Option Addr) (m c : Nat) (xs : List Int) (w : World) (h : Rf w base B v b skip torn dead wr) (hM : Marks is sk n skip torn) (hl : b.length ≤ 4096)
    (hwr : 0 ≤ wr ∧ wr ≤ 4611686018427387904) (hA : ∀ W', KeepBut w W' B none → Kd.C (Kd.int .u8) W' A m xs) (hm : m ≤ 140737488351232) (hmc : m ≤ c) :
    Calls Try.prog 49 #[.pointer (some ⟨B, 0, none⟩), .int .i64 at_, .slice A m c] w fun e w' => ∃ v' skip', e = .returned (.int .i64 (fwE is sk dead b.length at_ m)) ∧ Rf w' base B v' (fwB is sk n dead b at_ xs) skip' torn (fwD is sk dead b.length at_ m) (fwN wr dead b.length at_ m) ∧ Marks (fwIs is sk dead b.length at_ m) (fwSk is sk dead b.length at_ m) n skip' torn ∧ (v'.ownBlock = v.ownBlock ∨ ∀ j, v'.ownBlock = some j → w.heap.size ≤ j) ∧ KeepBut w w' B none ∧ Below base w w' := by
  have hxl : xs.length = m := (hA w (KeepBut.refl _ _ _)).1
  by_cases hz : mayV dead b.length at_ m = 0
  · have hz' : mayV dead b.length at_ xs.length = 0 := by rw [hxl]; exact hz
    obtain ⟨rfl, c1, c2, c3, c4⟩ := mayV_zero hz
    obtain ⟨a, rfl⟩ : ∃ q : Nat, at_ = (q : Int) := ⟨at_.toNat, by omega⟩
    unfold fwE fwB fwIs fwSk fwD fwN
    rw [if_pos hz, if_pos hz', if_pos hz, if_pos hz, if_pos hz, if_pos hz, Int.toNat_natCast]
    by_cases hd : dueV is sk = true
    · have e1 : fwK is sk n xs.length = (if n < (m : Int) then n else (m : Int)).toNat := by unfold fwK; rw [if_pos hd, hxl]
      have hd2 : is = true ∧ sk = 0 := by simpa [dueV] using hd
      obtain ⟨rfl, rfl⟩ := hd2
      obtain ⟨rfl, rfl, _, q1, _, q2⟩ := hM.1 rfl
      rw [if_pos hd, e1, hd]
      have hk2 : (((if torn < (m : Int) then torn else (m : Int)).toNat : Nat) : Int) = if torn < (m : Int) then torn else (m : Int) := by split <;> omega
      refine (rf_write_torn B base v b torn wr a A m c (if torn < (m : Int) then torn else (m : Int)).toNat xs w h hl hk2 ⟨q1, q2⟩ hwr hA hmc (by omega)).mono ?_
      · rintro e w' ⟨v', rfl, k1, k2, k3, k4⟩
        exact ⟨v', _, rfl, k1, ⟨by simp [dueIs], fun _ => rfl⟩, .inr k2, k3, k4⟩
    · have e1 : fwK is sk n xs.length = xs.length := by unfold fwK; rw [if_neg hd]
      have hb : -1 ≤ skip ∧ skip ≤ 9223372036854775807 ∧ skip ≠ 0 := by
        cases is with
        | true =>
          obtain ⟨rfl, rfl, q0, q1, q3, q2⟩ := hM.1 rfl
          have : skip ≠ 0 := by intro e; subst e; exact hd (by simp [dueV])
          omega
        | false => have := hM.2 rfl; omega
      rw [if_neg hd, e1, List.take_of_length_le (Nat.le_refl _), Bool.eq_false_iff.2 hd]
      refine (rf_write_ok B base v b skip torn wr a A m c xs w h hl ⟨hb.1, hb.2.1⟩ hb.2.2 hwr hA hmc (by omega)).mono ?_
      rintro e w' ⟨v', rfl, k1, k2, k3, k4⟩
      refine ⟨v', _, rfl, k1, ?_, .inr k2, k3, k4⟩
      cases is with
      | true =>
        obtain ⟨rfl, rfl, q0, q1, q3, q2⟩ := hM.1 rfl
        refine ⟨fun _ => ?_, fun e => ?_⟩
        · have : dueSk true skip = skip - 1 := by unfold dueSk; rw [if_pos ⟨rfl, hb.2.2⟩]
          rw [this, if_neg (by omega)]
          exact ⟨rfl, rfl, by omega, q1, by omega, q2⟩
        · simp [dueIs, hb.2.2] at e
      | false =>
        have := hM.2 rfl
        subst this
        exact ⟨fun e => by simp [dueIs] at e, fun _ => by decide⟩
  · have hz' : ¬ mayV dead b.length at_ xs.length = 0 := by rw [hxl]; exact hz
    unfold fwE fwB fwIs fwSk fwD fwN
    rw [if_neg hz, if_neg hz', if_neg hz, if_neg hz, if_neg hz, if_neg hz]
    exact (rf_write_no B base v b skip torn dead wr at_ A m c w h hl hm hz).mono (by rintro e w' ⟨rfl, rfl⟩; exact ⟨v, skip, rfl, h, hM, .inl rfl, KeepBut.refl _ _ _, Below.refl _ _⟩)
theorem marks_tear {is : Bool} {sk n skip torn : Int} (h : Marks is sk n skip torn) (x y : Int) (hx : x ≤ 9223372036854775807) (hy : y ≤ 9223372036854775807) : Marks (decide (0 ≤ x ∧ 0 ≤ y)) (if 0 ≤ x ∧ 0 ≤ y then x else 0) (if 0 ≤ x ∧ 0 ≤ y then y else 0) (if 0 ≤ x ∧ 0 ≤ y then x else -1) (if 0 ≤ x ∧ 0 ≤ y then y else torn) := by
  by_cases c : 0 ≤ x ∧ 0 ≤ y
  · rw [if_pos c, if_pos c, if_pos c, if_pos c]
    exact ⟨fun _ => ⟨rfl, rfl, c.1, c.2, hx, hy⟩, fun e => by simp [c] at e⟩
  · rw [if_neg c, if_neg c, if_neg c, if_neg c]
    exact ⟨fun e => absurd (of_decide_eq_true e) c, fun _ => rfl⟩
theorem marks_none (sk n torn : Int) : Marks false sk n (-1) torn := ⟨by simp, fun _ => rfl⟩
/-- a flash of the program's own, made anew beside the reference's -/
theorem Pr.copy {w w' : World} {b1 B1 B1' b2 B2 : Nat} {v1 v1' v2 : Value} {is is' : Bool} {sk m sk' m' skip torn n n' n1 : Int} {b b' b1' : List Int} {dead dead' dead1 : Bool} (h : Pr w b1 B1 v1 is sk m b dead n b2 B2 v2 skip torn b' dead' n') (h1 : Fl w' w.heap.size B1' v1' b1' is' sk' m' dead1 n1) (hb : Below w.heap.size w w') (hle : b1 ≤ w.heap.size) : Pr w' b1 B1' v1' is' sk' m' b1' dead1 n1 b2 B2 v2 skip torn b' dead' n' := by
  obtain ⟨a, c, hB, ho⟩ := h
  have q1 := blk_lt c.2.1
  refine ⟨⟨Nat.le_trans hle h1.1, h1.2.1, Kd.R_lower h1.2.2 hle⟩, c.below hb, ?_, fun j hj e => ?_⟩
  · have := h1.1; omega
  · obtain ⟨i1, ho1⟩ := Kd.R_own h1.2.2
    obtain ⟨i2, ho2⟩ := Kd.R_own c.2.2
    have := own_base ho1 j e
    have := own_lt ho2 j hj
    omega
theorem fl_own8 {w : World} {base : Nat} {v : Value} {l : List Int} (h : Kd.R (Kd.int .u8) 5 w base (fun _ => True) v l) : ∀ w', Below w.heap.size w w' → (convert 36 9 v).run Try.prog w' = .ok (.string (strOfNums l)) w' := by
  intro w' hb
  exact own_string (P := Try.prog) Try.underlying36 Try.underlying5 Try.underlying9 (Kd.own_of_R (Kd.R_below h hb))
theorem fl_low {w w' : World} {a : Addr} {v : Value} (h : w.cell? a = some v) (hb : Below w.heap.size w w') : w'.cell? a = some v :=
  (World.cell?_of_block (w := w) (hb.block _ (World.block_lt_of_cell? w _ h))).trans h
theorem fl_rows {w : World} {e : Nat} {A : Option Addr} {n : Nat} {ll : List (List Int)} (h : Kd.C (Kd.slice e (Kd.int .u8)) w A n ll) (k : Nat) (hk : k < n) :
    ∃ ad Ab cb, A = some ad ∧ w.cell? (ad.add k) = some (.slice Ab (ll.getD k []).length cb) ∧ (ll.getD k []).length ≤ cb ∧ Kd.C (Kd.int .u8) w Ab (ll.getD k []).length (ll.getD k []) := by
  obtain ⟨h1, _, h2⟩ := h
  obtain ⟨ad, rfl, h3⟩ := h2 (by omega)
  have hl : k < ll.length := by omega
  obtain ⟨c, _, ⟨Ab, cb, hc, hcb, hC⟩, h5⟩ := h3 k (ll[k]) (List.getElem?_eq_getElem hl)
  have e0 : ll.getD k [] = ll[k] := by rw [List.getD_eq_getElem?_getD, List.getElem?_eq_getElem hl]; rfl
  rw [e0]
  subst hc
  have := h5 0 _ rfl
  refine ⟨ad, Ab, cb, rfl, ?_, hcb, hC⟩
  have hz : k * (Kd.slice e (Kd.int .u8)).sz + 0 = k := by show k * 1 + 0 = k; omega
  rwa [hz] at this
theorem rf_arg {w0 w : World} {A : Option Addr} {m : Nat} {xs : List Int} {base B : Nat} {v : Value} {b : List Int} {skip torn n : Int} {dead : Bool} (h : Kd.C (Kd.int .u8) w0 A m xs) (hb : Below w0.heap.size w0 w) (hF : Rf w base B v b skip torn dead n) (hle : w0.heap.size ≤ base) :
    ∀ W', KeepBut w W' B none → Kd.C (Kd.int .u8) W' A m xs := by
  intro W' hk
  refine Kd.C_kept_came (Kd.heap_int .u8) h hb (S := fun k => k = B ∨ some k = none) ?_ W' (kept_of hk)
  rintro k (rfl | hk)
  · exact Nat.le_trans hle hF.1
  · cases hk
/-- what holds at each round's head and behind each act -/
def Both (w0 w : World) (B1 : Nat) (v1 : Value) (is : Bool) (sk m : Int) (b : List Int) (dead : Bool) (n : Int) (B2 : Nat) (v2 : Value) (skip torn : Int) : Prop :=
  Pr w w0.heap.size B1 v1 is sk m b dead n w0.heap.size B2 v2 skip torn b dead n ∧ Marks is sk m skip torn ∧ Below w0.heap.size w0 w ∧ b.length ≤ 4096 ∧ (0 ≤ sk ∧ sk ≤ 9223372036854775807) ∧ 0 ≤ m
theorem both_pr {w0 w : World} {B1 : Nat} {v1 : Value} {is : Bool} {sk m : Int} {b : List Int} {dead : Bool} {n : Int} {B2 : Nat} {v2 : Value} {skip torn : Int} (h : Both w0 w B1 v1 is sk m b dead n B2 v2 skip torn) : Pr w w0.heap.size B1 v1 is sk m b dead n w0.heap.size B2 v2 skip torn b dead n := h.1
theorem both_below {w0 w : World} {B1 : Nat} {v1 : Value} {is : Bool} {sk m : Int} {b : List Int} {dead : Bool} {n : Int} {B2 : Nat} {v2 : Value} {skip torn : Int} (h : Both w0 w B1 v1 is sk m b dead n B2 v2 skip torn) : Below w0.heap.size w0 w := h.2.2.1
theorem Both.below {w0 w w' : World} {B1 : Nat} {v1 : Value} {is : Bool} {sk m : Int} {b : List Int} {dead : Bool} {n : Int} {B2 : Nat} {v2 : Value} {skip torn : Int} (h : Both w0 w B1 v1 is sk m b dead n B2 v2 skip torn) (hb : Below w.heap.size w w') : Both w0 w' B1 v1 is sk m b dead n B2 v2 skip torn :=
  ⟨h.1.below hb, h.2.1, below_step h.2.2.1 hb, h.2.2.2⟩
end Go.Proofs.Ytaoiamifofkklaa.Obj
