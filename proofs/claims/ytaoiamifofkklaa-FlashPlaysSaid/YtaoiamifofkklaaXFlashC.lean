/- Contracts of Go functions that the claims of this seat share. -/
import Derived.Test.YtaoiamifofkklaaProg
import Derived.Below
import Derived.Deep.Draws
import Derived.Deep.AppendLies
import Derived.Maps.AppendAt
import Derived.OwnWalk
import Derived.Laws.BytesArg
import Derived.Laws.MakeOwn
import Derived.Laws.OwnMore
import Derived.Deep.OwnRows
import Derived.Tactics
import Derived.Lib.ConvBytes
import Derived.Laws.Slices
import Derived.WalkKit
import Derived.KernelRfl
import Derived.RowKit3
import Derived.Deep.LoopGhost
import Derived.Deep.QuietTactic
import Derived.BigQuiet
import Derived.WideLaws
import Derived.Deep.DeepCutAuto
import Derived.Deep.CutBlock
import Derived.Deep.RegionHeld3
import Derived.Laws.Rows
import Derived.Lib.AppendStr
import Derived.ArgAppend
import Derived.Laws.IdiomCopy
import Derived.OrdersHeld
import Derived.Laws.BitsLemmas
import Derived.RowKit
import Derived.Test.YtaoiamifofkklaaWWords
import Derived.Test.YtaoiamifofkklaaWLast
import Derived.Test.YtaoiamifofkklaaWTab
import Derived.Test.YtaoiamifofkklaaWFour
import Derived.Test.YtaoiamifofkklaaWQPut
import Derived.Test.YtaoiamifofkklaaWApart
import Derived.Test.YtaoiamifofkklaaWArr
import Derived.Test.YtaoiamifofkklaaWZeros
import Derived.Test.YtaoiamifofkklaaWFoot
import Derived.Test.YtaoiamifofkklaaWKept
import Derived.Test.YtaoiamifofkklaaWShare
import Derived.Test.YtaoiamifofkklaaWN
import Derived.Test.YtaoiamifofkklaaWFootNe
import Derived.Test.YtaoiamifofkklaaWAt
import Derived.Test.YtaoiamifofkklaaWEqStruct
import Derived.Test.YtaoiamifofkklaaWRepsOne
import Derived.Test.YtaoiamifofkklaaWInv
import Derived.Test.YtaoiamifofkklaaWInvWords
import Derived.Test.YtaoiamifofkklaaWGuard
import Derived.Test.YtaoiamifofkklaaWNEv
import Derived.Test.YtaoiamifofkklaaWMore
import Derived.Test.YtaoiamifofkklaaX0Mem
import Derived.Test.YtaoiamifofkklaaX1Pure
import Derived.Test.YtaoiamifofkklaaXFlashB
namespace Go.Proofs.Ytaoiamifofkklaa.Obj
open Go.RowKit Go.Proofs.YtaoiamifofkklaaW.PrintWords Go.Proofs.YtaoiamifofkklaaW.PrintLast Go.Proofs.YtaoiamifofkklaaW.PrintMore
set_option linter.unusedVariables false
set_option linter.unusedSimpArgs false
theorem fl_write_i (B : Nat) (base : Nat) (v : Value) (b : List Int) (is : Bool) (sk n : Int) (wr : Int) (a : Int) (a' : Nat) (A : Option Addr) (m c : Nat) (xs : List Int) (w : World) (ea : a = (a' : Int)) (h : Fl w base B v b is sk n false wr) (hl : b.length ≤ 4096)
    (hsk : 0 ≤ sk ∧ sk ≤ 9223372036854775807) (hwr : 0 ≤ wr ∧ wr ≤ 4611686018427387904) (hA : ∀ W', KeepBut w W' B v.ownBlock → Kd.C (Kd.int .u8) W' A m xs) (ham : a' + m ≤ b.length) (hd : dueV is sk = false) :
    Calls Try.prog 25 #[.pointer (some ⟨B, 0, none⟩), .int .i64 a, .slice A m c] w fun e w' => e = .returned (.int .i64 0) ∧ Fl w' base B v (wrB b a' xs) (dueIs is sk) (dueSk is sk) n false (wr + 1) ∧ KeepBut w w' B v.ownBlock ∧ Below base w w' := by
  subst ea
  exact fl_write_ok B base v b is sk n wr a' A m c xs w h hl hsk hwr hA ham hd
/-- the string of bytes that are there -/
theorem s_run {w : World} {A : Option Addr} {n : Nat} {l : List Int} (c : Nat) (h : Kd.C (Kd.int .u8) w A n l) : ∀ w', Below w.heap.size w w' → (convert 36 9 (.slice A n c)).run Try.prog w' = .ok (.string (strOfNums l)) w' := by
  intro w' hb
  have hl := h.1
  subst hl
  exact Kd.C_string (P := Try.prog) (A := A) (c := c) Try.underlying36 Try.underlying5 Try.underlying9 (Kd.C_below h hb)
theorem c_take {w : World} {A : Option Addr} {n : Nat} {l : List Int} (c k : Nat) (h : Kd.C (Kd.int .u8) w A n l) (hk : k ≤ n) (hc : n ≤ c) :
    (∀ W : World, (Instr.slice 36 (.slice A n c) none (some (.int .i64 (k : Int))) none).run Try.prog W = .ok (.slice A k c) W) ∧ Kd.C (Kd.int .u8) w A k (l.take k) := by
  have hl := h.1
  subst hl
  obtain ⟨i0, hi0, _, hsz, _⟩ := info_parts fl_info
  have h2 := Kd.C_take h hk
  have e : (l.take k).length = k := by rw [List.length_take]; omega
  rw [e] at h2
  exact ⟨cutH (P := Try.prog) 36 5 Try.underlying36 hi0 A l.length c k (by omega), h2⟩
theorem c_drop {w : World} {A : Option Addr} {n : Nat} {l : List Int} (c k : Nat) (h : Kd.C (Kd.int .u8) w A n l) (hk : k ≤ n) (hc : n ≤ c) :
    ∃ A', (∀ W : World, (Instr.slice 36 (.slice A n c) (some (.int .i64 (k : Int))) none none).run Try.prog W = .ok (.slice A' (n - k) (c - k)) W) ∧ Kd.C (Kd.int .u8) w A' (n - k) (l.drop k) := by
  have hl := h.1
  subst hl
  obtain ⟨i0, hi0, _, hsz, _⟩ := info_parts fl_info
  obtain ⟨A', h1, h2, _⟩ := print_drop_of (P := Try.prog) (Value.int .u8) 0 36 5 .i64 Try.underlying36 hi0 hsz A c l (k : Int) (by omega) (by omega) hc
  rw [Int.toNat_natCast] at h1 h2
  have e : (l.drop k).length = l.length - k := List.length_drop
  rw [e] at h1 h2
  exact ⟨A', h1, Kd.C_of_reads (d := (0 : Int)) (h1 := fun _ => rfl) (h2 w (Kd.reads_of_C h))⟩
theorem c_mid {w : World} {A : Option Addr} {n : Nat} {l : List Int} (c k j : Nat) (h : Kd.C (Kd.int .u8) w A n l) (hk : k + j ≤ n) (hc : n ≤ c) :
    ∃ A', (∀ W : World, (Instr.slice 36 (.slice A n c) (some (.int .i64 (k : Int))) (some (.int .i64 ((k : Int) + (j : Int)))) none).run Try.prog W = .ok (.slice A' j (c - k)) W) ∧ Kd.C (Kd.int .u8) w A' j ((l.take (k + j)).drop k) := by
  have hl := h.1
  subst hl
  obtain ⟨i0, hi0, _, hsz, _⟩ := info_parts fl_info
  obtain ⟨A', h1, h2, _⟩ := print_mid_of (P := Try.prog) (Value.int .u8) 0 36 5 .i64 .i64 Try.underlying36 hi0 hsz A c l (k : Int) ((k : Int) + (j : Int)) (by omega) (by omega) (by omega) hc
  rw [Int.toNat_natCast, show ((k : Int) + (j : Int)).toNat = k + j by omega] at h1 h2
  have e : ((l.take (k + j)).drop k).length = j := by rw [List.length_drop, List.length_take]; omega
  rw [e] at h1 h2
  exact ⟨A', h1, Kd.C_of_reads (d := (0 : Int)) (h1 := fun _ => rfl) (h2 w (Kd.reads_of_C h))⟩
theorem wrB_take {b ys : List Int} {a : Nat} (h : a ≤ b.length) : (wrB b a ys).take a = b.take a := by
  have e : (b.take a).length = a := by rw [List.length_take]; omega
  unfold wrB
  rw [List.take_append_of_le_length (by omega), List.take_of_length_le (by omega)]
theorem wrB_mid {b ys : List Int} {a : Nat} (h : a ≤ b.length) : ((wrB b a ys).take (a + ys.length)).drop a = ys := by
  have e : (b.take a).length = a := by rw [List.length_take]; omega
  unfold wrB
  rw [List.take_append, e, List.take_of_length_le (l := b.take a) (by omega), List.drop_append, e, Nat.sub_self, List.drop_zero, List.drop_of_length_le (by omega), List.nil_append, show a + ys.length - a = ys.length by omega, List.take_append_of_le_length (Nat.le_refl _), List.take_of_length_le (Nat.le_refl _)]
theorem wrB_drop {b ys : List Int} {a : Nat} (h : a ≤ b.length) : (wrB b a ys).drop (a + ys.length) = b.drop (a + ys.length) := by
  have e : (b.take a).length = a := by rw [List.length_take]; omega
  unfold wrB
  rw [List.drop_append, e, List.drop_of_length_le (by omega), List.nil_append, show a + ys.length - a = ys.length by omega, List.drop_append, List.drop_of_length_le (Nat.le_refl _), List.nil_append, Nat.sub_self, List.drop_zero]
theorem wrB_b {b l : List Int} (h : IsB b) (h' : IsB l) (a : Nat) : IsB (wrB b a l) := IsB.append (IsB.take h _) (IsB.append h' (IsB.drop h _))
/-- a row that was made behind a flash stays when the flash is written -/
theorem fl_row_keep {w3 w4 w5 : World} {base B : Nat} {v v' : Value} {b xs : List Int} {is : Bool} {sk n : Int} {dead : Bool} {wr : Int} (hF : Fl w3 base B v b is sk n dead wr) (hR : Kd.R (Kd.int .u8) 5 w4 w3.heap.size (fun _ => True) v' xs) (hk : KeepBut w4 w5 B v.ownBlock) :
    Kd.R (Kd.int .u8) 5 w5 w3.heap.size (fun _ => True) v' xs := by
  have hB := blk_lt hF.2.1
  obtain ⟨inner, ho⟩ := Kd.R_own hF.2.2
  obtain ⟨inner', ho'⟩ := Kd.R_own hR
  refine Kd.R_mono (Kd.R_kept (Kd.R_tight rfl hR) (kept_of hk) (fun k hk' => ?_)) (fun _ _ => trivial)
  have h1 := own_base ho' k hk'.symm
  rintro (rfl | h2)
  · omega
  · have := own_lt ho k h2.symm
    omega
end Go.Proofs.Ytaoiamifofkklaa.Obj
