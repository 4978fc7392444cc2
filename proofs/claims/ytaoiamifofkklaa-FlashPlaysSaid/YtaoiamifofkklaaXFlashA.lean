/- Contracts of Go functions that the claims of this seat share. -/
import Derived.Test.YtaoiamifofkklaaProg
import Derived.Below
import Derived.Deep.Draws
import Derived.Deep.AppendLies
import Derived.Maps.AppendAt
import Derived.OwnWalk
import Derived.Laws.BytesArg
import Derived.Laws.MakeOwn
import Derived.Laws.OwnMore
import Derived.Deep.OwnRows
import Derived.Tactics
import Derived.Lib.ConvBytes
import Derived.Laws.Slices
import Derived.WalkKit
import Derived.KernelRfl
import Derived.RowKit3
import Derived.Deep.LoopGhost
import Derived.Deep.QuietTactic
import Derived.BigQuiet
import Derived.WideLaws
import Derived.Deep.DeepCutAuto
import Derived.Deep.CutBlock
import Derived.Deep.RegionHeld3
import Derived.Laws.Rows
import Derived.Lib.AppendStr
import Derived.ArgAppend
import Derived.Laws.IdiomCopy
import Derived.OrdersHeld
import Derived.Laws.BitsLemmas
import Derived.RowKit
import Derived.Test.YtaoiamifofkklaaWWords
import Derived.Test.YtaoiamifofkklaaWLast
import Derived.Test.YtaoiamifofkklaaWTab
import Derived.Test.YtaoiamifofkklaaWFour
import Derived.Test.YtaoiamifofkklaaWQPut
import Derived.Test.YtaoiamifofkklaaWApart
import Derived.Test.YtaoiamifofkklaaWArr
import Derived.Test.YtaoiamifofkklaaWZeros
import Derived.Test.YtaoiamifofkklaaWFoot
import Derived.Test.YtaoiamifofkklaaWKept
import Derived.Test.YtaoiamifofkklaaWShare
import Derived.Test.YtaoiamifofkklaaWN
import Derived.Test.YtaoiamifofkklaaWFootNe
import Derived.Test.YtaoiamifofkklaaWAt
import Derived.Test.YtaoiamifofkklaaWEqStruct
import Derived.Test.YtaoiamifofkklaaWRepsOne
import Derived.Test.YtaoiamifofkklaaWInv
import Derived.Test.YtaoiamifofkklaaWInvWords
import Derived.Test.YtaoiamifofkklaaWGuard
import Derived.Test.YtaoiamifofkklaaWNEv
import Derived.Test.YtaoiamifofkklaaWMore
import Derived.Test.YtaoiamifofkklaaX0Mem
import Derived.Test.YtaoiamifofkklaaX1Pure
import Derived.Test.YtaoiamifofkklaaXObjA
namespace Go.Proofs.Ytaoiamifofkklaa.Obj
open Go.RowKit Go.Proofs.YtaoiamifofkklaaW.PrintWords Go.Proofs.YtaoiamifofkklaaW.PrintLast Go.Proofs.YtaoiamifofkklaaW.PrintMore
set_option linter.unusedVariables false
set_option linter.unusedSimpArgs false
/-! A flash in memory: its block, its bytes (a row of its own), its marks. -/
def Fl (w : World) (base B : Nat) (v : Value) (b : List Int) (is : Bool) (sk n : Int) (dead : Bool) (wr : Int) : Prop :=
  base ≤ B ∧ w.heap[B]? = some (.cells #[v, .bool is, .int .i64 sk, .int .i64 n, .bool dead, .int .i64 wr, .bool true] 66 (0, 0)) ∧ Kd.R (Kd.int .u8) 5 w base (fun _ => True) v b
theorem Fl.below {w w' : World} {base B : Nat} {v : Value} {b : List Int} {is : Bool} {sk n : Int} {dead : Bool} {wr : Int} (h : Fl w base B v b is sk n dead wr) (hb : Below w.heap.size w w') : Fl w' base B v b is sk n dead wr :=
  ⟨h.1, blk_below h.2.1 hb, Kd.R_below h.2.2 hb⟩
theorem Fl.ne {w : World} {base B : Nat} {v : Value} {b : List Int} {is : Bool} {sk n : Int} {dead : Bool} {wr : Int} (h : Fl w base B v b is sk n dead wr) : some B ≠ v.ownBlock := by
  intro e
  obtain ⟨inner, ho⟩ := Kd.R_own h.2.2
  obtain ⟨cells, hc⟩ := own_typed ho B e.symm
  have := h.2.1
  rw [hc] at this
  injection this with this
  injection this with _ ht _
  cases ht
/-- what a call to reach n bytes at a place answers -/
def mayV (dead : Bool) (len : Nat) (a n : Int) : Int := if dead = true then 5 else if a < 0 ∨ n < 0 ∨ (len : Int) < a ∨ (len : Int) - a < n then 1 else 0
theorem fl_none (B : Nat) (w : World) (h : w.cell? ⟨B, 6, none⟩ = some (.bool true)) : Calls Try.prog 70 #[.pointer (some ⟨B, 0, none⟩)] w fun e w' => e = .returned (.bool false) ∧ w' = w := by
  have hu := Try.underlying66
  go_enter Try.func70, Try.ntmps70
  go_wp2
  go_ret
  exact ⟨rfl, rfl⟩
set_option maxHeartbeats 4000000 in
set_option maxRecDepth 100000 in
theorem fl_may (B : Nat) (A : Option Addr) (len cap : Nat) (dead : Bool) (a n : Int) (w : World) (h6 : w.cell? ⟨B, 6, none⟩ = some (.bool true)) (h4 : w.cell? ⟨B, 4, none⟩ = some (.bool dead)) (h0 : w.cell? ⟨B, 0, none⟩ = some (.slice A len cap)) (hl : len ≤ 4096) :
    Calls Try.prog 71 #[.pointer (some ⟨B, 0, none⟩), .int .i64 a, .int .i64 n] w fun e w' => e = .returned (.int .i64 (mayV dead len a n)) ∧ w' = w := by
  have hu := Try.underlying66
  have HN := Aside0.mk (fl_none B w h6)
  cases dead
  · by_cases c1 : a < 0
    · have e : mayV false len a n = 1 := by unfold mayV; rw [if_neg (by decide), if_pos (.inl c1)]
      rw [e]
      go_enter Try.func71, Try.ntmps71
      go_wp2_with (go_at_call 70; refine HN.out.mono ?_; rintro e w1 ⟨rfl, rfl⟩)
      go_ret
      exact ⟨rfl, rfl⟩
    · by_cases c2 : n < 0
      · have e : mayV false len a n = 1 := by unfold mayV; rw [if_neg (by decide), if_pos (.inr (.inl c2))]
        rw [e]
        go_enter Try.func71, Try.ntmps71
        go_wp2_with (go_at_call 70; refine HN.out.mono ?_; rintro e w1 ⟨rfl, rfl⟩)
        go_ret
        exact ⟨rfl, rfl⟩
      · by_cases c3 : (len : Int) < a
        · have e : mayV false len a n = 1 := by unfold mayV; rw [if_neg (by decide), if_pos (.inr (.inr (.inl c3)))]
          rw [e]
          go_enter Try.func71, Try.ntmps71
          go_wp2_with (go_at_call 70; refine HN.out.mono ?_; rintro e w1 ⟨rfl, rfl⟩)
          go_ret
          exact ⟨rfl, rfl⟩
        · by_cases c4 : (len : Int) - a < n
          · have e : mayV false len a n = 1 := by unfold mayV; rw [if_neg (by decide), if_pos (.inr (.inr (.inr c4)))]
            rw [e]
            go_enter Try.func71, Try.ntmps71
            go_wp2_with (go_at_call 70; refine HN.out.mono ?_; rintro e w1 ⟨rfl, rfl⟩)
            go_ret
            exact ⟨rfl, rfl⟩
          · have e : mayV false len a n = 0 := by unfold mayV; rw [if_neg (by decide), if_neg (by omega)]
            rw [e]
            go_enter Try.func71, Try.ntmps71
            go_wp2_with (go_at_call 70; refine HN.out.mono ?_; rintro e w1 ⟨rfl, rfl⟩)
            go_ret
            exact ⟨rfl, rfl⟩
  · have e : mayV true len a n = 5 := by unfold mayV; rw [if_pos rfl]
    rw [e]
    go_enter Try.func71, Try.ntmps71
    go_wp2_with (go_at_call 70; refine HN.out.mono ?_; rintro e w1 ⟨rfl, rfl⟩)
    go_ret
    exact ⟨rfl, rfl⟩
theorem fl_info : (Try.prog.info? 5).map (fun i => (i.zero, i.size, i.bytes)) = some (some (.int .u8 0), 1, 1) := by kernel_rfl
set_option maxHeartbeats 1000000 in
theorem fl_len (B : Nat) (A : Option Addr) (len cap : Nat) (w : World) (h6 : w.cell? ⟨B, 6, none⟩ = some (.bool true)) (h0 : w.cell? ⟨B, 0, none⟩ = some (.slice A len cap)) (hl : len ≤ 4096) :
    Calls Try.prog 40 #[.pointer (some ⟨B, 0, none⟩)] w fun e w' => e = .returned (.int .i64 len) ∧ w' = w := by
  have hu := Try.underlying66
  have HN := Aside0.mk (fl_none B w h6)
  go_enter Try.func40, Try.ntmps40
  go_wp2_with (go_at_call 70; refine HN.out.mono ?_; rintro e w1 ⟨rfl, rfl⟩)
  go_ret
  exact ⟨rfl, rfl⟩
set_option maxHeartbeats 1000000 in
theorem fl_dead (B : Nat) (dead : Bool) (w : World) (h6 : w.cell? ⟨B, 6, none⟩ = some (.bool true)) (h4 : w.cell? ⟨B, 4, none⟩ = some (.bool dead)) :
    Calls Try.prog 29 #[.pointer (some ⟨B, 0, none⟩)] w fun e w' => e = .returned (.bool dead) ∧ w' = w := by
  have hu := Try.underlying66
  have HN := Aside0.mk (fl_none B w h6)
  go_enter Try.func29, Try.ntmps29
  go_wp2_with (go_at_call 70; refine HN.out.mono ?_; rintro e w1 ⟨rfl, rfl⟩)
  go_ret
  exact ⟨rfl, rfl⟩
set_option maxHeartbeats 1000000 in
theorem fl_writes (B : Nat) (wr : Int) (w : World) (h6 : w.cell? ⟨B, 6, none⟩ = some (.bool true)) (h5 : w.cell? ⟨B, 5, none⟩ = some (.int .i64 wr)) :
    Calls Try.prog 41 #[.pointer (some ⟨B, 0, none⟩)] w fun e w' => e = .returned (.int .i64 wr) ∧ w' = w := by
  have hu := Try.underlying66
  have HN := Aside0.mk (fl_none B w h6)
  go_enter Try.func41, Try.ntmps41
  go_wp2_with (go_at_call 70; refine HN.out.mono ?_; rintro e w1 ⟨rfl, rfl⟩)
  go_ret
  exact ⟨rfl, rfl⟩
theorem fl_set {w : World} {base B : Nat} {v : Value} {b : List Int} (hR : Kd.R (Kd.int .u8) 5 w base (fun _ => True) v b) (hne : some B ≠ v.ownBlock) (j : Nat) (u : Value) : Kd.R (Kd.int .u8) 5 (w.setCell ⟨B, j, none⟩ u) base (fun _ => True) v b :=
  Kd.R_mono (Kd.R_far (Kd.R_far1 hR rfl hne) (fun k hk => hk.2) u) (fun _ _ => trivial)
theorem fl_below_set {base B j : Nat} {a w : World} {u : Value} (h : Below base a w) (hB : base ≤ B) : Below base a (w.setCell ⟨B, j, none⟩ u) := h.setCell (p := ⟨B, j, none⟩) hB u
theorem fl_keep_set {w w1 : World} {B j : Nat} {u : Value} (h : KeepBut w w1 B none) : KeepBut w (w1.setCell ⟨B, j, none⟩ u) B none := h.set_ j u
theorem keep_set1 (w : World) (B j : Nat) (u : Value) : KeepBut w (w.setCell ⟨B, j, none⟩ u) B none := (KeepBut.refl w B none).set_ j u
set_option maxHeartbeats 4000000 in
set_option maxRecDepth 100000 in
theorem fl_tear (B : Nat) (base : Nat) (v : Value) (b : List Int) (is : Bool) (sk n : Int) (dead : Bool) (wr x y : Int) (w : World) (h : Fl w base B v b is sk n dead wr) :
    Calls Try.prog 28 #[.pointer (some ⟨B, 0, none⟩), .int .i64 x, .int .i64 y] w fun e w' => (∃ v, e = .returned v) ∧ Fl w' base B v b (decide (0 ≤ x ∧ 0 ≤ y)) (if 0 ≤ x ∧ 0 ≤ y then x else 0) (if 0 ≤ x ∧ 0 ≤ y then y else 0) dead wr ∧ KeepBut w w' B none ∧ Below base w w' := by
  have hne := h.ne
  obtain ⟨hb, hh, hr⟩ := h
  have hu := Try.underlying66
  have hu2 := Try.underlying64
  have h6 := (blk_cell hh 6).trans rfl
  have HN := Aside0.mk (fl_none B w h6)
  have g1 := (blk_cell hh 1).trans rfl
  have g2 := (blk_cell hh 2).trans rfl
  have g3 := (blk_cell hh 3).trans rfl
  have f1 := blk_frozen hh 1
  have f2 := blk_frozen hh 2
  have f3 := blk_frozen hh 3
  have HH := Aside0.mk hh
  have HR := Aside0.mk hr
  have HB := Aside0.mk hb
  have HNE := Aside0.mk hne
  clear hh hr hb hne
  by_cases c1 : 0 ≤ x
  · by_cases c2 : 0 ≤ y
    · go_enter Try.func28, Try.ntmps28
      go_wp2_with (go_at_call 70; refine HN.out.mono ?_; rintro e w1 ⟨rfl, rfl⟩)
      go_end0
      exact ⟨⟨_, rfl⟩, ⟨HB.out, by have q := HH.out; simp [World.setCell, Array.getElem?_modify, q], by repeat (first | (with_reducible exact HR.out) | (with_reducible refine fl_set ?_ HNE.out _ _))⟩, by repeat (first | (with_reducible exact KeepBut.refl _ _ _) | (with_reducible refine fl_keep_set ?_)), by repeat (first | (with_reducible exact Below.refl _ _) | (with_reducible refine fl_below_set ?_ HB.out))⟩
    · go_enter Try.func28, Try.ntmps28
      go_wp2_with (go_at_call 70; refine HN.out.mono ?_; rintro e w1 ⟨rfl, rfl⟩)
      go_end0
      exact ⟨⟨_, rfl⟩, ⟨HB.out, by have q := HH.out; simp [World.setCell, Array.getElem?_modify, q], by repeat (first | (with_reducible exact HR.out) | (with_reducible refine fl_set ?_ HNE.out _ _))⟩, by repeat (first | (with_reducible exact KeepBut.refl _ _ _) | (with_reducible refine fl_keep_set ?_)), by repeat (first | (with_reducible exact Below.refl _ _) | (with_reducible refine fl_below_set ?_ HB.out))⟩
  · go_enter Try.func28, Try.ntmps28
    go_wp2_with (go_at_call 70; refine HN.out.mono ?_; rintro e w1 ⟨rfl, rfl⟩)
    go_end0
    exact ⟨⟨_, rfl⟩, ⟨HB.out, by have q := HH.out; (simp [World.setCell, Array.getElem?_modify, q]; omega), by repeat (first | (with_reducible exact HR.out) | (with_reducible refine fl_set ?_ HNE.out _ _))⟩, by repeat (first | (with_reducible exact KeepBut.refl _ _ _) | (with_reducible refine fl_keep_set ?_)), by repeat (first | (with_reducible exact Below.refl _ _) | (with_reducible refine fl_below_set ?_ HB.out))⟩
set_option maxHeartbeats 4000000 in
set_option maxRecDepth 100000 in
theorem fl_wake (B : Nat) (base : Nat) (v : Value) (b : List Int) (is : Bool) (sk n : Int) (dead : Bool) (wr : Int) (w : World) (h : Fl w base B v b is sk n dead wr) :
    Calls Try.prog 30 #[.pointer (some ⟨B, 0, none⟩)] w fun e w' => (∃ v, e = .returned v) ∧ Fl w' base B v b false 0 0 false wr ∧ KeepBut w w' B none ∧ Below base w w' := by
  have hne := h.ne
  obtain ⟨hb, hh, hr⟩ := h
  have hu := Try.underlying66
  have hu2 := Try.underlying64
  have h6 := (blk_cell hh 6).trans rfl
  have HN := Aside0.mk (fl_none B w h6)
  have g1 := (blk_cell hh 1).trans rfl
  have g2 := (blk_cell hh 2).trans rfl
  have g3 := (blk_cell hh 3).trans rfl
  have g4 := (blk_cell hh 4).trans rfl
  have f1 := blk_frozen hh 1
  have f2 := blk_frozen hh 2
  have f3 := blk_frozen hh 3
  have f4 := blk_frozen hh 4
  have HH := Aside0.mk hh
  have HR := Aside0.mk hr
  have HB := Aside0.mk hb
  have HNE := Aside0.mk hne
  clear hh hr hb hne
  go_enter Try.func30, Try.ntmps30
  go_wp2_with (go_at_call 70; refine HN.out.mono ?_; rintro e w1 ⟨rfl, rfl⟩)
  go_end0
  exact ⟨⟨_, rfl⟩, ⟨HB.out, by have q := HH.out; simp [World.setCell, Array.getElem?_modify, q], by repeat (first | (with_reducible exact HR.out) | (with_reducible refine fl_set ?_ HNE.out _ _))⟩, by repeat (first | (with_reducible exact KeepBut.refl _ _ _) | (with_reducible refine fl_keep_set ?_)), by repeat (first | (with_reducible exact Below.refl _ _) | (with_reducible refine fl_below_set ?_ HB.out))⟩
def dueV (is : Bool) (sk : Int) : Bool := is && (sk == 0)
def dueIs (is : Bool) (sk : Int) : Bool := is && !(sk == 0)
def dueSk (is : Bool) (sk : Int) : Int := if is = true ∧ sk ≠ 0 then sk - 1 else sk
set_option maxHeartbeats 4000000 in
set_option maxRecDepth 100000 in
theorem fl_due (B : Nat) (base : Nat) (v : Value) (b : List Int) (is : Bool) (sk n : Int) (dead : Bool) (wr : Int) (w : World) (h : Fl w base B v b is sk n dead wr) (hsk : 0 ≤ sk ∧ sk ≤ 9223372036854775807) :
    Calls Try.prog 72 #[.pointer (some ⟨B, 1, none⟩)] w fun e w' => e = .returned (.bool (dueV is sk)) ∧ Fl w' base B v b (dueIs is sk) (dueSk is sk) n dead wr ∧ KeepBut w w' B none ∧ Below base w w' := by
  have hne := h.ne
  obtain ⟨hb, hh, hr⟩ := h
  have hu := Try.underlying66
  have hu2 := Try.underlying64
  have g1 := (blk_cell hh 1).trans rfl
  have g2 := (blk_cell hh 2).trans rfl
  have f1 := blk_frozen hh 1
  have f2 := blk_frozen hh 2
  have HH := Aside0.mk hh
  have HR := Aside0.mk hr
  have HB := Aside0.mk hb
  have HNE := Aside0.mk hne
  clear hh hr hb hne
  cases is
  · go_enter Try.func72, Try.ntmps72
    go_wp2
    go_ret
    exact ⟨rfl, ⟨HB.out, HH.out, HR.out⟩, KeepBut.refl _ _ _, Below.refl _ _⟩
  · by_cases c : sk = 0
    · subst c
      go_enter Try.func72, Try.ntmps72
      go_wp2
      go_ret
      exact ⟨rfl, ⟨HB.out, by have q := HH.out; simp [World.setCell, Array.getElem?_modify, q, dueIs, dueSk], by repeat (first | (with_reducible exact HR.out) | (with_reducible refine fl_set ?_ HNE.out _ _))⟩, by repeat (first | (with_reducible exact KeepBut.refl _ _ _) | (with_reducible refine fl_keep_set ?_)), by repeat (first | (with_reducible exact Below.refl _ _) | (with_reducible refine fl_below_set ?_ HB.out))⟩
    · have e1 : dueV true sk = false := by simp [dueV, c]
      have e2 : dueIs true sk = true := by simp [dueIs, c]
      have e3 : dueSk true sk = sk - 1 := by simp [dueSk, c]
      rw [e1, e2, e3]
      clear e1 e2 e3
      go_enter Try.func72, Try.ntmps72
      go_wp2
      go_ret
      exact ⟨rfl, ⟨HB.out, by have q := HH.out; simp [World.setCell, Array.getElem?_modify, q], by repeat (first | (with_reducible exact HR.out) | (with_reducible refine fl_set ?_ HNE.out _ _))⟩, by repeat (first | (with_reducible exact KeepBut.refl _ _ _) | (with_reducible refine fl_keep_set ?_)), by repeat (first | (with_reducible exact Below.refl _ _) | (with_reducible refine fl_below_set ?_ HB.out))⟩
theorem Fl.slice {w : World} {base B : Nat} {v : Value} {b : List Int} {is : Bool} {sk n : Int} {dead : Bool} {wr : Int} (h : Fl w base B v b is sk n dead wr) : ∃ A cap, v = .slice A b.length cap ∧ b.length ≤ cap ∧ Kd.C (Kd.int .u8) w A b.length b := Kd.R_reads h.2.2
/-- what Read hands over -/
def readV (dead : Bool) (b : List Int) (a n : Int) : List Int := if mayV dead b.length a n = 0 then (b.drop a.toNat).take n.toNat else []
theorem mayV_zero {dead : Bool} {len : Nat} {a n : Int} (h : mayV dead len a n = 0) : dead = false ∧ 0 ≤ a ∧ 0 ≤ n ∧ a ≤ len ∧ a + n ≤ len := by
  unfold mayV at h
  split at h
  · cases h
  · rename_i hd
    split at h
    · cases h
    · rename_i hc
      refine ⟨by simpa using hd, by omega, by omega, by omega, by omega⟩
theorem mayV_not {dead : Bool} {len : Nat} {a n : Int} (h : mayV dead len a n ≠ 0) : (mayV dead len a n == 0) = false ∧ (mayV dead len a n != 0) = true := by
  constructor
  · simpa using h
  · simpa using h
theorem fl_form {W w : World} {base e n : Nat} {ok : Nat → Prop} {v : Value} (h : (Kd.int .u8).R e w base ok v (List.replicate n 0)) (hn : ∃ b, v.ownBlock = some b ∧ W.heap.size ≤ b) : ∃ g cap, v = .slice (some ⟨g, 0, none⟩) n cap := by
  obtain ⟨b, hb, _⟩ := hn
  have ho := Kd.own_of_R h
  rcases ho.2 with ⟨hv, hl⟩ | ⟨g, cap, cur, hv, _⟩
  · rw [hv] at hb; simp [Value.ownBlock] at hb
  · exact ⟨g, cap, by rw [hv]; simp⟩
set_option maxHeartbeats 4000000 in
set_option maxRecDepth 100000 in
theorem fl_read (B : Nat) (base : Nat) (v : Value) (b : List Int) (is : Bool) (sk m : Int) (dead : Bool) (wr : Int) (a n : Int) (w : World) (h : Fl w base B v b is sk m dead wr) (hl : b.length ≤ 4096) :
    Calls Try.prog 26 #[.pointer (some ⟨B, 0, none⟩), .int .i64 a, .int .i64 n] w fun e w' => ∃ v1, e = .returned (.tuple #[v1, .int .i64 (mayV dead b.length a n)]) ∧ Kd.R (Kd.int .u8) 5 w' w.heap.size (fun _ => True) v1 (readV dead b a n) ∧ Below w.heap.size w w' := by
  obtain ⟨A, cap, rfl, hlc, hC⟩ := h.slice
  obtain ⟨hb, hh, hr⟩ := h
  have hu := Try.underlying66
  have h6 := (blk_cell hh 6).trans rfl
  have h4 := (blk_cell hh 4).trans rfl
  have h0 := (blk_cell hh 0).trans rfl
  have HM := Aside0.mk (fl_may B A b.length cap dead a n w h6 h4 h0 hl)
  by_cases hz : mayV dead b.length a n = 0
  · obtain ⟨rfl, c1, c2, c3, c4⟩ := mayV_zero hz
    obtain ⟨a, rfl⟩ : ∃ q : Nat, a = (q : Int) := ⟨a.toNat, by omega⟩
    obtain ⟨n, rfl⟩ : ∃ q : Nat, n = (q : Int) := ⟨n.toNat, by omega⟩
    have hread : readV false b (a : Int) (n : Int) = (b.drop a).take n := by unfold readV; rw [if_pos hz, Int.toNat_natCast, Int.toNat_natCast]
    rw [hz] at HM ⊢
    rw [hread]
    obtain ⟨i0, hi0, _, hsz, _⟩ := info_parts fl_info
    obtain ⟨A', hcut, hA, hCc⟩ := print_drop_of (P := Try.prog) (Value.int .u8) 0 36 5 .i64 Try.underlying36 hi0 hsz A cap b (a : Int) (by omega) c3 hlc
    rw [Int.toNat_natCast] at hcut hA hCc
    have HC := Aside0.mk (Kd.C_of_reads (d := (0 : Int)) (h1 := fun _ => rfl) (hA w (Kd.reads_of_C hC)))
    obtain ⟨len, hlen⟩ : ∃ len, b.length = len := ⟨_, rfl⟩
    have hdl : (b.drop a).length = len - a := by rw [List.length_drop, hlen]
    rw [hlen] at hcut h0 hl c3 c4 hh
    rw [hdl] at hcut HC
    have HH := Aside0.mk hh
    have HDL := Aside0.mk hdl
    have HLEN := Aside0.mk hlen
    clear hread hA hCc hC hr hi0 hsz hlc hh hdl hlen hz
    go_enter Try.func26, Try.ntmps26
    go_wp2_with (first
      | (go_at_call 71; refine HM.out.mono ?_; rintro e w1 ⟨rfl, rfl⟩)
      | (at_make; refine x_makecap .u8 _ 5 rfl (N := 18) rfl 36 _ _ rfl _ _ rfl rfl Try.underlying36 1 fl_info (by decide) (by omega) (by omega) (by omega) (Below.refl _ _) (Nat.le_refl _) ?_; intro v1 w2 ho1 hb1 hg1 hn1; rw [Int.toNat_natCast] at ho1; obtain ⟨gv, qv, rfl⟩ := fl_form ho1 hn1; have HO := Aside0.mk ho1; have HB1 := Aside0.mk hb1; have h0' := (blk_cell (blk_below HH.out hb1) 0).trans rfl; clear ho1 hb1 hg1 hn1)
      | ((with_reducible refine gate_dst (N := 25) rfl ?_); refine x_slice rfl 36 5 Try.underlying36 (.tmp 23) (some (.tmp 24)) none none rfl _ _ _ _ rfl rfl rfl rfl (.slice A' (len - a) (cap - a)) hcut ?_; simp only [Act.put, List.setIfInBounds_toArray, List.set_cons_zero, List.set_cons_succ])
      | ((with_reducible refine gate_dst (N := 26) rfl ?_); (refine x_copyAt .u8 _ 5 rfl (.tmp 19) (.tmp 25) 36 36 rfl Try.underlying36 (by kernel_rfl) (.slice (some ⟨gv, 0, none⟩) n qv) 0 n (len - a) qv (some ⟨gv, 0, none⟩) _ ((b.drop a).take n) (b.drop a) A' (cap - a) _ rfl rfl HO.out (Kd.C_below HC.out HB1.out) rfl (fun _ => ⟨gv, n, qv, rfl, rfl⟩) (by simp) HB1.out ?_); intro w3 ho3 hb3 hg3; have HO3 := Aside0.mk ho3; have HB3 := Aside0.mk hb3; clear ho3 hb3 hg3))
    go_ret2
    refine ⟨_, rfl, ?_, HB3.out⟩
    have q := HO3.out
    have e1 : ((b.drop a).take n).length = n := by rw [List.length_take, HDL.out]; omega
    rw [e1] at q
    simpa using q
  · obtain ⟨q1, q2⟩ := mayV_not hz
    have hread : readV dead b a n = [] := by unfold readV; rw [if_neg hz]
    rw [hread]
    obtain ⟨x, hx⟩ : ∃ x, mayV dead b.length a n = x := ⟨_, rfl⟩
    rw [hx] at HM q1 q2 ⊢
    clear hh hr hC hx hz hread h0 h4
    go_enter Try.func26, Try.ntmps26
    go_wp2_with (go_at_call 71; refine HM.out.mono ?_; rintro e w1 ⟨rfl, rfl⟩)
    go_ret2
    exact ⟨_, rfl, Kd.R_nil _ _ _ _ _, Below.refl _ _⟩
theorem Fl.set5 {w : World} {base B : Nat} {v : Value} {b : List Int} {is : Bool} {sk n : Int} {dead : Bool} {wr : Int} (h : Fl w base B v b is sk n dead wr) (x : Int) : Fl (w.setCell ⟨B, 5, none⟩ (.int .i64 x)) base B v b is sk n dead x :=
  ⟨h.1, by have q := h.2.1; simp [World.setCell, Array.getElem?_modify, q], fl_set h.2.2 h.ne _ _⟩
theorem Fl.set4 {w : World} {base B : Nat} {v : Value} {b : List Int} {is : Bool} {sk n : Int} {dead : Bool} {wr : Int} (h : Fl w base B v b is sk n dead wr) (x : Bool) : Fl (w.setCell ⟨B, 4, none⟩ (.bool x)) base B v b is sk n x wr :=
  ⟨h.1, by have q := h.2.1; simp [World.setCell, Array.getElem?_modify, q], fl_set h.2.2 h.ne _ _⟩
theorem keep_row {w w' : World} {B : Nat} (row : Option Nat) (h : KeepBut w w' B none) : KeepBut w w' B row := ⟨h.1, fun i hi h1 h2 => h.2 i hi h1 (by simp)⟩
theorem keep_then {w w1 w2 : World} {B : Nat} {row : Option Nat} (h : KeepBut w w1 B row) (k : KeepBut w1 w2 B row) : KeepBut w w2 B row := h.trans k (.inl rfl)
/-- the bytes when some were put at a place -/
def wrB (b : List Int) (a : Nat) (ys : List Int) : List Int := b.take a ++ (ys ++ b.drop (a + ys.length))
theorem wrB_len {b : List Int} {a : Nat} {ys : List Int} (h : a + ys.length ≤ b.length) : (wrB b a ys).length = b.length := by
  unfold wrB; rw [List.length_append, List.length_append, List.length_take, List.length_drop]; omega
theorem fl_hdp {w : World} {base : Nat} {A0 : Option Addr} {len cap a m : Nat} {b : List Int} (hr : Kd.R (Kd.int .u8) 5 w base (fun _ => True) (.slice A0 len cap) b) (hb : a + m ≤ b.length) :
    0 < m → ∃ g n' cap', Value.slice A0 len cap = .slice (some ⟨g, 0, none⟩) n' cap' ∧ (if m = 0 then A0 else A0.map (·.add a)) = some ⟨g, a, none⟩ := by
  intro hm
  obtain ⟨g, cap', hv, _⟩ := Kd.R_form hr (by omega)
  injection hv with h1 h2 h3
  subst h1; subst h2; subst h3
  exact ⟨g, _, _, rfl, by rw [if_neg (by omega)]; show some ((⟨g, 0, none⟩ : Addr).add a) = _; rw [add_plain]⟩
set_option maxHeartbeats 4000000 in
set_option maxRecDepth 100000 in
theorem fl_write_no (B : Nat) (base : Nat) (v : Value) (b : List Int) (is : Bool) (sk n : Int) (dead : Bool) (wr : Int) (at_ : Int) (A : Option Addr) (m c : Nat) (w : World) (h : Fl w base B v b is sk n dead wr) (hl : b.length ≤ 4096) (hz : mayV dead b.length at_ m ≠ 0) :
    Calls Try.prog 25 #[.pointer (some ⟨B, 0, none⟩), .int .i64 at_, .slice A m c] w fun e w' => e = .returned (.int .i64 (mayV dead b.length at_ m)) ∧ w' = w := by
  obtain ⟨A0, cap, rfl, hlc, hC⟩ := h.slice
  obtain ⟨hb, hh, hr⟩ := h
  have hu := Try.underlying66
  have h6 := (blk_cell hh 6).trans rfl
  have h4 := (blk_cell hh 4).trans rfl
  have h0 := (blk_cell hh 0).trans rfl
  have HM := Aside0.mk (fl_may B A0 b.length cap dead at_ m w h6 h4 h0 hl)
  obtain ⟨q1, q2⟩ := mayV_not hz
  obtain ⟨x, hx⟩ : ∃ x, mayV dead b.length at_ m = x := ⟨_, rfl⟩
  rw [hx] at HM q1 q2 ⊢
  clear hh hr hC hx hz h0 h4
  go_enter Try.func25, Try.ntmps25
  go_wp2_with (go_at_call 71; refine HM.out.mono ?_; rintro e w1 ⟨rfl, rfl⟩)
  go_ret
  exact ⟨rfl, rfl⟩
section
attribute [local go_sem] max2_int min2_int max_two min_two
set_option maxHeartbeats 4000000 in
set_option maxRecDepth 100000 in
theorem fl_write_ok (B : Nat) (base : Nat) (v : Value) (b : List Int) (is : Bool) (sk n : Int) (wr : Int) (a : Nat) (A : Option Addr) (m c : Nat) (xs : List Int) (w : World) (h : Fl w base B v b is sk n false wr) (hl : b.length ≤ 4096)
    (hsk : 0 ≤ sk ∧ sk ≤ 9223372036854775807) (hwr : 0 ≤ wr ∧ wr ≤ 4611686018427387904) (hA : ∀ W', KeepBut w W' B v.ownBlock → Kd.C (Kd.int .u8) W' A m xs) (ham : a + m ≤ b.length) (hd : dueV is sk = false) :
    Calls Try.prog 25 #[.pointer (some ⟨B, 0, none⟩), .int .i64 a, .slice A m c] w fun e w' => e = .returned (.int .i64 0) ∧ Fl w' base B v (wrB b a xs) (dueIs is sk) (dueSk is sk) n false (wr + 1) ∧ KeepBut w w' B v.ownBlock ∧ Below base w w' := by
  have hxl : xs.length = m := (hA w (KeepBut.refl _ _ _)).1
  have HFl := Aside0.mk h
  have HNE := Aside0.mk h.ne
  obtain ⟨A0, cap, rfl, hlc, hC⟩ := h.slice
  obtain ⟨hb, hh, hr⟩ := h
  have hu := Try.underlying66
  have hu2 := Try.underlying64
  have h6 := (blk_cell hh 6).trans rfl
  have h4 := (blk_cell hh 4).trans rfl
  have h0 := (blk_cell hh 0).trans rfl
  have g5 := (blk_cell hh 5).trans rfl
  have f5 := blk_frozen hh 5
  have hz : mayV false b.length (a : Int) (m : Int) = 0 := by unfold mayV; rw [if_neg (by decide), if_neg (by omega)]
  have HM := Aside0.mk (fl_may B A0 b.length cap false (a : Int) (m : Int) w h6 h4 h0 hl)
  rw [hz] at HM
  have hdp := fl_hdp (a := a) (m := m) hr ham
  obtain ⟨i0, hi0, _, hsz, _⟩ := info_parts fl_info
  have hcut := cut3 (P := Try.prog) 36 5 Try.underlying36 hi0 hsz A0 b.length cap a m (by omega)
  obtain ⟨dp, hdpe⟩ : ∃ dp, (if m = 0 then A0 else A0.map (·.add a)) = dp := ⟨_, rfl⟩
  rw [hdpe] at hdp hcut
  obtain ⟨len, hlen⟩ : ∃ len, b.length = len := ⟨_, rfl⟩
  rw [hlen] at HFl hcut h0 hl ham hdp hlc HNE
  simp only [hlen] at hA ⊢
  have HL := Aside0.mk hlen
  have HDP := Aside0.mk hdp
  have HX := Aside0.mk hxl
  have HA := Aside0.mk hA
  have HB := Aside0.mk hb
  have HD := Aside0.mk hd
  have HC := Aside0.mk hcut
  clear hdpe hdp hxl hA hb hd hC hr hz hi0 hsz hcut hlc hh hlen h0 h4
  go_enter Try.func25, Try.ntmps25
  go_wp2_with (first
    | (go_at_call 71; refine HM.out.mono ?_; rintro e w1 ⟨rfl, rfl⟩)
    | (go_at_call 72; refine (fl_due B base _ b is sk n false (wr + 1) _ (HFl.out.set5 (wr + 1)) hsk).mono ?_; rintro e w2 ⟨he, hF2, hk2, hb2⟩; rw [HD.out] at he; subst he; have HF2 := Aside0.mk hF2; have HK2 := Aside0.mk hk2; have HB2 := Aside0.mk hb2; have g0' := (blk_cell hF2.2.1 0).trans rfl; clear hF2 hk2 hb2 g5 f5 h6)
    | ((with_reducible refine gate_dst (N := 53) rfl ?_); refine x_slice rfl 36 5 Try.underlying36 (.tmp 43) (some (.tmp 44)) (some (.tmp 48)) (some (.tmp 52)) rfl _ _ _ _ rfl rfl rfl rfl (.slice dp m m) HC.out ?_; simp only [Act.put, List.setIfInBounds_toArray, List.set_cons_zero, List.set_cons_succ])
    | ((with_reducible refine gate_dst (N := 55) rfl ?_); (refine x_copyAt .u8 base 5 rfl (.tmp 53) (.tmp 54) 36 36 rfl Try.underlying36 (by kernel_rfl) (.slice A0 len cap) a m m m dp b xs xs A c (fun _ => True) rfl rfl HF2.out.2.2 (HA.out _ (keep_then (keep_row _ (keep_set1 _ _ _ _)) (keep_row _ HK2.out))) (List.take_of_length_le (by rw [HX.out]; exact Nat.le_refl _)) HDP.out (by rw [HL.out]; exact ham) HB2.out ?_); intro w3 ho3 hb3 hg3; have HO3 := Aside0.mk ho3; have HB3 := Aside0.mk hb3; have HG3 := Aside0.mk hg3; have g4' := (blk_cell (blk_grown HF2.out.2.1 hg3 HNE.out) 4).trans rfl; clear ho3 hb3 hg3 g0'))
  go_ret
  refine ⟨rfl, ⟨HB.out, blk_grown HF2.out.2.1 HG3.out HNE.out, HO3.out⟩, keep_then (keep_then (keep_row _ (keep_set1 _ _ _ _)) (keep_row _ HK2.out)) (KeepBut.of_grown HG3.out _), ?_⟩
  exact (fl_below_set (Below.refl _ _) HB.out).trans HB3.out
end
section
attribute [local go_sem] max2_int min2_int max_two min_two
set_option maxHeartbeats 4000000 in
set_option maxRecDepth 100000 in
theorem fl_write_torn (B : Nat) (base : Nat) (v : Value) (b : List Int) (is : Bool) (sk n : Int) (wr : Int) (a : Nat) (A : Option Addr) (m c k : Nat) (xs : List Int) (w : World) (h : Fl w base B v b is sk n false wr) (hl : b.length ≤ 4096)
    (hsk : 0 ≤ sk ∧ sk ≤ 9223372036854775807) (hwr : 0 ≤ wr ∧ wr ≤ 4611686018427387904) (hA : ∀ W', KeepBut w W' B v.ownBlock → Kd.C (Kd.int .u8) W' A m xs) (hmc : m ≤ c) (ham : a + m ≤ b.length) (hd : dueV is sk = true) (hk : (if n < (m : Int) then n else (m : Int)) = (k : Int)) :
    Calls Try.prog 25 #[.pointer (some ⟨B, 0, none⟩), .int .i64 a, .slice A m c] w fun e w' => e = .returned (.int .i64 5) ∧ Fl w' base B v (wrB b a (xs.take k)) (dueIs is sk) (dueSk is sk) n true (wr + 1) ∧ KeepBut w w' B v.ownBlock ∧ Below base w w' := by
  have hxl : xs.length = m := (hA w (KeepBut.refl _ _ _)).1
  have hkm : k ≤ m := by split at hk <;> omega
  have hkl : (xs.take k).length = k := by rw [List.length_take]; omega
  have hA' : ∀ W', KeepBut w W' B v.ownBlock → Kd.C (Kd.int .u8) W' A k (xs.take k) := by
    intro W' hW'
    have h1 := hA W' hW'
    rw [← hxl] at h1
    have h2 := Kd.C_take h1 (m := k) (by omega)
    rwa [hkl] at h2
  have HFl := Aside0.mk h
  have HNE := Aside0.mk h.ne
  obtain ⟨A0, cap, rfl, hlc, hC⟩ := h.slice
  obtain ⟨hb, hh, hr⟩ := h
  have hu := Try.underlying66
  have hu2 := Try.underlying64
  have h6 := (blk_cell hh 6).trans rfl
  have h4 := (blk_cell hh 4).trans rfl
  have h0 := (blk_cell hh 0).trans rfl
  have g5 := (blk_cell hh 5).trans rfl
  have f5 := blk_frozen hh 5
  have hz : mayV false b.length (a : Int) (m : Int) = 0 := by unfold mayV; rw [if_neg (by decide), if_neg (by omega)]
  have HM := Aside0.mk (fl_may B A0 b.length cap false (a : Int) (m : Int) w h6 h4 h0 hl)
  rw [hz] at HM
  have hdp := fl_hdp (a := a) (m := k) hr (by omega)
  obtain ⟨i0, hi0, _, hsz, _⟩ := info_parts fl_info
  have hcut := cut3 (P := Try.prog) 36 5 Try.underlying36 hi0 hsz A0 b.length cap a k (by omega)
  have hcut2 := cutH (P := Try.prog) 36 5 Try.underlying36 hi0 A m c k (by omega)
  obtain ⟨dp, hdpe⟩ : ∃ dp, (if k = 0 then A0 else A0.map (·.add a)) = dp := ⟨_, rfl⟩
  rw [hdpe] at hdp hcut
  obtain ⟨len, hlen⟩ : ∃ len, b.length = len := ⟨_, rfl⟩
  rw [hlen] at HFl hcut h0 hl ham hdp hlc HNE
  simp only [hlen] at hA' ⊢
  obtain ⟨ys, hys⟩ : ∃ ys, xs.take k = ys := ⟨_, rfl⟩
  rw [hys] at hkl ⊢
  simp only [hys] at hA'
  have HL := Aside0.mk hlen
  have HDP := Aside0.mk hdp
  have HX := Aside0.mk hkl
  have HA := Aside0.mk hA'
  have HB := Aside0.mk hb
  have HD := Aside0.mk hd
  have HC := Aside0.mk hcut
  have HC2 := Aside0.mk hcut2
  clear hdpe hdp hxl hA hA' hb hd hC hr hz hi0 hsz hcut hcut2 hlc hh hlen h0 h4 hys hkl
  go_enter Try.func25, Try.ntmps25
  go_wp2_with (first
    | (go_at_call 71; refine HM.out.mono ?_; rintro e w1 ⟨rfl, rfl⟩)
    | (go_at_call 72; refine (fl_due B base _ b is sk n false (wr + 1) _ (HFl.out.set5 (wr + 1)) hsk).mono ?_; rintro e w2 ⟨he, hF2, hk2, hb2⟩; rw [HD.out] at he; subst he; have HF2 := Aside0.mk hF2; have HK2 := Aside0.mk hk2; have HB2 := Aside0.mk hb2; have g0' := (blk_cell hF2.2.1 0).trans rfl; have g3' := (blk_cell hF2.2.1 3).trans rfl; have g4' := (blk_cell hF2.2.1 4).trans rfl; have f4' := blk_frozen hF2.2.1 4; clear hF2 hk2 hb2 g5 f5 h6)
    | ((with_reducible refine gate_dst (N := 36) rfl ?_); refine x_slice rfl 36 5 Try.underlying36 (.tmp 27) none (some (.tmp 35)) none rfl _ _ _ _ rfl rfl rfl rfl (.slice A k c) HC2.out ?_; simp only [Act.put, List.setIfInBounds_toArray, List.set_cons_zero, List.set_cons_succ])
    | ((with_reducible refine gate_dst (N := 53) rfl ?_); refine x_slice rfl 36 5 Try.underlying36 (.tmp 43) (some (.tmp 44)) (some (.tmp 48)) (some (.tmp 52)) rfl _ _ _ _ rfl rfl rfl rfl (.slice dp k k) HC.out ?_; simp only [Act.put, List.setIfInBounds_toArray, List.set_cons_zero, List.set_cons_succ])
    | ((with_reducible refine gate_dst (N := 55) rfl ?_); (refine x_copyAt .u8 base 5 rfl (.tmp 53) (.tmp 54) 36 36 rfl Try.underlying36 (by kernel_rfl) (.slice A0 len cap) a k k k dp b ys ys A c (fun _ => True) rfl rfl (HF2.out.set4 true).2.2 (HA.out _ (keep_then (keep_then (keep_row _ (keep_set1 _ _ _ _)) (keep_row _ HK2.out)) (keep_row _ (keep_set1 _ _ _ _)))) (List.take_of_length_le (by rw [HX.out]; exact Nat.le_refl _)) HDP.out (by rw [HL.out]; omega) (fl_below_set HB2.out HB.out) ?_); intro w3 ho3 hb3 hg3; have HO3 := Aside0.mk ho3; have HB3 := Aside0.mk hb3; have HG3 := Aside0.mk hg3; have g4'' := (blk_cell (blk_grown (HF2.out.set4 true).2.1 hg3 HNE.out) 4).trans rfl; clear ho3 hb3 hg3 g0' g3' g4' f4'))
  go_ret
  refine ⟨rfl, ⟨HB.out, blk_grown (HF2.out.set4 true).2.1 HG3.out HNE.out, HO3.out⟩, keep_then (keep_then (keep_then (keep_row _ (keep_set1 _ _ _ _)) (keep_row _ HK2.out)) (keep_row _ (keep_set1 _ _ _ _))) (KeepBut.of_grown HG3.out _), ?_⟩
  exact (fl_below_set (Below.refl _ _) HB.out).trans HB3.out
end
end Go.Proofs.Ytaoiamifofkklaa.Obj
