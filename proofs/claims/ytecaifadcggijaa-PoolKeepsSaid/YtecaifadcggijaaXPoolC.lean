/- Contracts of Go functions that the claims of this seat share. -/
import Derived.Test.YtecaifadcggijaaProg
import Derived.Below
import Derived.Deep.Draws
import Derived.Deep.AppendLies
import Derived.Maps.AppendAt
import Derived.OwnWalk
import Derived.Laws.BytesArg
import Derived.Laws.MakeOwn
import Derived.Laws.OwnMore
import Derived.Deep.OwnRows
import Derived.Tactics
import Derived.Lib.ConvBytes
import Derived.Laws.Slices
import Derived.WalkKit
import Derived.KernelRfl
import Derived.RowKit3
import Derived.Deep.LoopGhost
import Derived.Deep.QuietTactic
import Derived.BigQuiet
import Derived.WideLaws
import Derived.Deep.DeepCutAuto
import Derived.Deep.CutBlock
import Derived.Deep.RegionHeld3
import Derived.Laws.Rows
import Derived.Lib.AppendStr
import Derived.ArgAppend
import Derived.Laws.IdiomCopy
import Derived.OrdersHeld
import Derived.Laws.BitsLemmas
import Derived.RowKit
import Derived.Test.YtecaifadcggijaaWWords
import Derived.Test.YtecaifadcggijaaWLast
import Derived.Test.YtecaifadcggijaaWTab
import Derived.Test.YtecaifadcggijaaWFour
import Derived.Test.YtecaifadcggijaaWQPut
import Derived.Test.YtecaifadcggijaaWApart
import Derived.Test.YtecaifadcggijaaWArr
import Derived.Test.YtecaifadcggijaaWZeros
import Derived.Test.YtecaifadcggijaaWFoot
import Derived.Test.YtecaifadcggijaaWKept
import Derived.Test.YtecaifadcggijaaWShare
import Derived.Test.YtecaifadcggijaaWN
import Derived.Test.YtecaifadcggijaaWFootNe
import Derived.Test.YtecaifadcggijaaWAt
import Derived.Test.YtecaifadcggijaaWEqStruct
import Derived.Test.YtecaifadcggijaaWRepsOne
import Derived.Test.YtecaifadcggijaaWInv
import Derived.Test.YtecaifadcggijaaWInvWords
import Derived.Test.YtecaifadcggijaaWGuard
import Derived.Test.YtecaifadcggijaaWNEv
import Derived.Test.YtecaifadcggijaaWMore
import Derived.Test.YtecaifadcggijaaX0Mem
import Derived.Test.YtecaifadcggijaaX1Pure
import Derived.Test.YtecaifadcggijaaXPoolB
namespace Go.Proofs.Ytecaifadcggijaa.Obj
open Go.RowKit Go.Proofs.YtecaifadcggijaaW.PrintWords Go.Proofs.YtecaifadcggijaaW.PrintLast Go.Proofs.YtecaifadcggijaaW.PrintMore
set_option linter.unusedVariables false
set_option linter.unusedSimpArgs false
open Go.Maps Go.WideMaps
theorem str_bytes (s : ByteArray) : strOfNums (bytesOf s) = s := by
  cases s with
  | mk d =>
    unfold strOfNums bytesOf
    congr
    rw [List.map_map]
    have : (fun n : Int => UInt8.ofNat n.toNat) ∘ (fun b : UInt8 => (b.toNat : Int)) = id := by
      funext b
      simp
    rw [this, List.map_id]
/-- what the first k rows make -/
def items (l0 : List (List Int)) (k : Nat) : List (Int × ByteArray) := (List.range k).map fun (i : Nat) => ((i : Int) % 8, strOfNums (l0.getD i []))
theorem items_len (l0 : List (List Int)) (k : Nat) : (items l0 k).length = k := by simp [items]
theorem items_succ (l0 : List (List Int)) (k : Nat) : items l0 (k + 1) = items l0 k ++ [((k : Int) % 8, strOfNums (l0.getD k []))] := by
  unfold items
  rw [List.range_succ, List.map_append, List.map_cons, List.map_nil]
theorem items_at (l0 : List (List Int)) (k i : Nat) (h : i < (items l0 k).length) : (items l0 k)[i] = ((i : Int) % 8, strOfNums (l0.getD i [])) := by simp [items]
theorem items_sent (l0 : List (List Int)) (k i : Nat) (h : i < k) : decide (∃ x ∈ items l0 k, x.2 = strOfNums (l0.getD i [])) = true := by
  rw [decide_eq_true_iff]
  exact ⟨_, List.mem_map.2 ⟨i, List.mem_range.2 h, rfl⟩, rfl⟩
theorem PL.typed {w : World} {base P bm k : Nat} {v : Value} {xs : List (Int × ByteArray)} {cs : Array Value} (h : PL w base P v bm xs) (hk : w.heap[k]? = some (.cells cs 5 (0, 0))) : k ≠ P ∧ k ≠ bm ∧ some k ≠ v.ownBlock := by
  refine ⟨?_, fun e => h.2.2.2.2.ne hk e.symm, ?_⟩
  · exact blk_ne hk h.2.2.1 (by decide)
  · intro e
    obtain ⟨cs', hc⟩ := Kd.R_typed h.2.2.2.1 k e.symm
    rw [hk] at hc
    injection hc with hc
    injection hc with _ hc
    exact absurd hc (by decide)
/-- a row of bytes of the call's own stays beside the pool's Add -/
theorem pl_row {w w' : World} {base base' P bm : Nat} {v u : Value} {xs : List (Int × ByteArray)} {ys : List Int} (h : PL w base P v bm xs) (hr : Kd.R (Kd.int .u8) 5 w base' (fun _ => True) u ys) (hk : Kept w w' (fun k => k = P ∨ k = bm ∨ some k = v.ownBlock)) : Kd.R (Kd.int .u8) 5 w' base' (fun _ => True) u ys := by
  refine Kd.R_mono (Kd.R_kept (Kd.R_tight rfl hr) hk (fun k hk => ?_)) (fun _ _ => trivial)
  obtain ⟨cs, hc⟩ := Kd.R_typed hr k hk.symm
  have q := h.typed hc
  rintro (e | e | e)
  · exact q.1 e
  · exact q.2.1 e
  · exact q.2.2 e
theorem pl_foot {w : World} {base base' P bm : Nat} {v : Value} {xs : List (Int × ByteArray)} {ys : List Int} {A : Option Addr} {c m : Nat} (h : PL w base P v bm xs) (hr : Kd.R (Kd.int .u8) 5 w base' (fun _ => True) (.slice A m c) ys) :
    ∀ W', Kept w W' (fun k => k = P ∨ k = bm ∨ some k = v.ownBlock) → Kd.C (Kd.int .u8) W' A m ys := by
  intro W' hk
  have q := Kd.R_reads' (pl_row h hr hk)
  rw [q.1]
  exact q.2.2
theorem pl_store {w : World} {base base' P bm g n c i : Nat} {v u : Value} {xs : List (Int × ByteArray)} {ys : List Int} (h : PL w base P v bm xs) (hr : Kd.R (Kd.int .u8) 5 w base' (fun _ => True) (.slice (some ⟨g, 0, none⟩) n c) ys) : PL (w.setCell ⟨g, i, none⟩ u) base P v bm xs := by
  obtain ⟨cs, hc⟩ := Kd.R_typed hr g rfl
  have q := h.typed hc
  refine h.kept (S := fun k => k = g) ((Kept.refl w (fun k => k = g)).setCell (p := ⟨g, i, none⟩) (.inl rfl) u) q.1.symm q.2.1.symm (fun k hk e => q.2.2 ?_)
  have e' : k = g := e
  rw [← e']
  exact hk.symm
theorem lit_two {w : World} {base P bm : Nat} {v : Value} {xs : List (Int × ByteArray)} (h : PL w base P v bm xs) : ∀ W', Kept (w.alloc (.cells #[.int .u8 2] 5)) W' (fun k => k = P ∨ k = bm ∨ some k = v.ownBlock) → Kd.C (Kd.int .u8) W' (some ⟨w.heap.size, 0, none⟩) 1 [2] := by
  have h1 := own_lit w w.heap.size 5 .u8 [2] (Nat.le_refl _) (by simp)
  have h2 := Kd.R_of_own (enc := Value.int .u8) (h1 := fun _ => rfl) (ok := fun _ => True) h1 (fun _ _ => trivial)
  exact pl_foot (h.below (below_alloc (Below.refl _ _) _)) h2
set_option maxHeartbeats 4000000 in
set_option maxRecDepth 100000 in
theorem pl_awake (w : World) : Calls Try.prog 13 #[] w fun e w' => e = .returned (.bool true) ∧ Below w.heap.size w w' := by
  go_enter Try.func13, Try.ntmps13
  go_wp2_with (first
    | (go_at_call 11; (with_reducible refine (pl_new _).mono ?_); rintro e w1 ⟨P, bm, rfl, hP, hb⟩; have HP1 := Aside0.mk hP; have HB1 := Aside0.mk hb; clear hP hb)
    | (go_at_call 12; (with_reducible refine (pl_add P w.heap.size bm (.slice none 0 0) [] _ (HP1.out.below (below_alloc (Below.refl _ _) _)) 1 (by decide) (by decide) _ 1 1 [2] (lit_two HP1.out) (by decide) (by decide)).mono ?_); rintro e w2 ⟨v2, rfl, hP, _, hb⟩; have HP2 := Aside0.mk hP; have HB2 := Aside0.mk ((HB1.out.alloc HB1.out.size _).trans hb); clear hP hb)
    | (go_at_call 16; (with_reducible refine (pl_len P w.heap.size bm _ _ _ HP2.out).mono ?_); rintro e w2 ⟨rfl, rfl⟩))
  go_ret
  exact ⟨rfl, HB2.out⟩
theorem pl_rows {w : World} {e : Nat} {A : Option Addr} {n : Nat} {ll : List (List Int)} (h : Kd.C (Kd.slice e (Kd.int .u8)) w A n ll) (k : Nat) (hk : k < n) :
    ∃ ad Ab cb, A = some ad ∧ w.cell? (ad.add k) = some (.slice Ab (ll.getD k []).length cb) ∧ (ll.getD k []).length ≤ cb ∧ Kd.C (Kd.int .u8) w Ab (ll.getD k []).length (ll.getD k []) := by
  obtain ⟨h1, _, h2⟩ := h
  obtain ⟨ad, rfl, h3⟩ := h2 (by omega)
  have hl : k < ll.length := by omega
  obtain ⟨c, _, ⟨Ab, cb, hc, hcb, hC⟩, h5⟩ := h3 k (ll[k]) (List.getElem?_eq_getElem hl)
  have e0 : ll.getD k [] = ll[k] := by rw [List.getD_eq_getElem?_getD, List.getElem?_eq_getElem hl]; rfl
  rw [e0]
  subst hc
  have := h5 0 _ rfl
  refine ⟨ad, Ab, cb, rfl, ?_, hcb, hC⟩
  have hz : k * (Kd.slice e (Kd.int .u8)).sz + 0 = k := by show k * 1 + 0 = k; omega
  rwa [hz] at this
theorem sc_empty (W : World) (e : TypeId) : Kd.R (Kd.int .u8) e (W.alloc (.cells #[] e)) W.heap.size (fun _ => True) (.slice (some ⟨W.heap.size, 0, none⟩) 0 0) [] := by
  have h1 := own_lit W W.heap.size e .u8 [] (Nat.le_refl _) (by simp)
  exact Kd.R_of_own (enc := Value.int .u8) (h1 := fun _ => rfl) (ok := fun _ => True) h1 (fun _ _ => trivial)
/-- a new row was made and written: the pool stays -/
theorem pl_beside {w w' : World} {base P bm : Nat} {v : Value} {xs : List (Int × ByteArray)} {o : Obj} (h : PL w base P v bm xs) (hg : (w.alloc o).grownBy w' (Value.slice (some ⟨w.heap.size, 0, none⟩) 0 0).ownBlock) : PL w' base P v bm xs := by
  have h2 := h.below (below_alloc (Below.refl _ _) o)
  have hk : Kept (w.alloc o) w' (fun k => k = w.heap.size) := Kept.of_grown hg (Kept.refl _ _) (fun k hk => .inl (by simpa [Value.ownBlock] using hk.symm))
  have hP := blk_lt h.2.2.1
  obtain ⟨es, cl, hes, _⟩ := h.2.2.2.2
  have hb := blk_lt hes
  exact h2.kept hk (by omega) (by omega) (fun k hk e => by
    have := Kd.R_lt h.2.2.2.1 k hk
    omega)
theorem pl_get_item (P base bm : Nat) (v : Value) (l0 : List (List Int)) (k i : Nat) (w : World) (h : PL w base P v bm (items l0 k)) (hi : i < k) (hk : k ≤ 4096) (hsz : (l0.getD i []).length ≤ 140737488351232) :
    Calls Try.prog 14 #[.pointer (some ⟨P, 0, none⟩), .int .i64 (i : Int)] w fun e w' => ∃ A c, e = .returned (.tuple #[.slice A (l0.getD i []).length c, .int .i64 ((i : Int) % 8), .int .i64 0]) ∧ (∀ W, Below w'.heap.size w' W → (convert 25 9 (.slice A (l0.getD i []).length c)).run Try.prog W = .ok (.string (strOfNums (l0.getD i []))) W) ∧ Below w.heap.size w w' := by
  have e1 := items_at l0 k i (by rw [items_len]; exact hi)
  refine (pl_get P base bm v (items l0 k) w h i (by rw [items_len]; exact hi) (by rw [items_len]; exact hk) (by rw [e1, strOfNums_size]; exact hsz)).mono ?_
  rintro e w' ⟨A, c, rfl, hC, hb⟩
  rw [e1] at hC ⊢
  rw [strOfNums_size] at hC
  refine ⟨A, c, by rw [strOfNums_size], fun W hW => ?_, hb⟩
  have q := pl_str c hC W hW
  rw [str_bytes] at q
  exact q
end Go.Proofs.Ytecaifadcggijaa.Obj
