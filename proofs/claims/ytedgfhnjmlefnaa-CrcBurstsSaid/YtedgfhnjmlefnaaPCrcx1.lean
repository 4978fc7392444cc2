/- Written by a program of this session (wip/tools/hprint.py), over the kit's print, with hand-written contracts. -/
import Derived.Test.YtedgfhnjmlefnaaPCrcx0
namespace Go.Proofs.Ytedgfhnjmlefnaa.PCrc
open Go.RowKit Go.Proofs.YtedgfhnjmlefnaaW.PrintWords Go.Proofs.YtedgfhnjmlefnaaW.PrintLast Go.Proofs.YtedgfhnjmlefnaaW.PrintMore
attribute [local go_sem] max2_int min2_int max_two min_two max_three min_three max_four min_four Go.IntKind.wrap_u8   -- for this text's walks alone
set_option linter.unusedVariables false
set_option linter.unusedSimpArgs false

/-! ### crc_below_uint64: function 55 -/
def crc_below_uint64.f (a0 : Int) : Option (Int) := if 0 ≤ a0 then (some (IntKind.u64.wrap ((shl .u64 1 a0) - 1))) else (none)
set_option maxHeartbeats 8000000 in
set_option maxRecDepth 100000 in
theorem crc_below_uint64.calls (a0 : Int) (r : Int) (w : World) (h : crc_below_uint64.f a0 = some r) :
    Calls Try.prog 55 #[.int .i64 a0] w fun e w' => e = .returned (.int .u64 r) ∧ Drawn0 w w' := by
  have H : (if 0 ≤ a0 then (some (IntKind.u64.wrap ((shl .u64 1 a0) - 1))) else (none)) = some r := h
  clear h
  by_cases c2 : 0 ≤ a0
  · rw [if_pos c2] at H
    have c2b0 := eq_true c2
    have c2b1 : decide (0 ≤ a0) = true := decide_eq_true c2
    clear c2
    obtain ⟨ji3, hji3⟩ : ∃ j_ : Int, (shl .u64 1 a0) = j_ := ⟨_, rfl⟩
    replace H : (some (IntKind.u64.wrap ((ji3) - 1))) = some r := by first | (rw [hji3] at H; exact H) | (simp only [hji3] at H ⊢; exact H)
    have hji3_ : (IntKind.u64.wrap (1 * 2 ^ min a0.toNat 64)) = ji3 := hji3
    have hji3z : a0 ≤ 64 → (IntKind.u64.wrap (1 * 2 ^ a0.toNat)) = ji3 := shl_small hji3
    have hji3u : (IntKind.u64.wrap (2 ^ min a0.toNat 64)) = ji3 := by have h_ := hji3_; rw [Int.one_mul] at h_; exact h_
    have hji3v : a0 ≤ 64 → (IntKind.u64.wrap (2 ^ a0.toNat)) = ji3 := fun hle_ => by have h_ := hji3z hle_; rw [Int.one_mul] at h_; exact h_
    obtain rfl := Option.some.inj H
    go_enter Try.func55, Try.ntmps55
    go_wp2
    go_ret
    exact ⟨by first | rfl | (simp; done) | (simp only [← hji3] <;> (first | rfl | simp)) | (simp [*]; done), by repeat (first | exact Drawn0.refl _ | apply Drawn0.step)⟩
  · rw [if_neg c2] at H
    exact absurd H (by simp)

-- NOT PRINTED: function 56 (crc_bits)

/-! ### crc_poly_sum: function 52 -/
-- EXT (carillon/crc.poly).sum
-- NEED Derived.RangeFuncNested
-- NEED Derived.RangeFuncBound
-- NEED Derived.RangeFuncCalls
-- NEED Derived.RangeFuncLeaves
-- NEED Derived.RangeFuncFrom
-- NEED Derived.RangeFuncBox
-- NEED Derived.Shelf.Abstract
-- NEED Derived.Shelf.RegionOpen
-- NEED Derived.OwnWalkIn
-- NEED Derived.TacticsInMore
-- NEED Derived.LoopNIn
-- NEED Derived.LoopIn
-- NEED Derived.Deep.RegionWith
section
attribute [local go_sem] Oper.semAt_some
set_option maxHeartbeats 1000000 in
theorem crc_bits.is (F : Fence) (n : Nat) (h5 : F.fn 56) (hro : F.round = none) (a : Option Addr) (len cap : Nat) (w : World) :
    CallsIn F n Try.prog 56 #[.slice a len cap] w fun e w' => e = .returned (.func (.func 57) #[] #[.pointer (some ⟨w.heap.size, 0, none⟩)]) ∧ w' = w.alloc (.cells #[.slice a len cap] 26) := by
  refine callsIn_of_wp Try.func56 rfl h5 ?_ hro
  simp only [Try.ntmps56, List.size_toArray, List.length_cons, List.length_nil, Nat.reduceAdd, Nat.reduceSub, Array.replicate_succ, Array.replicate_zero, List.push_toArray, List.append_toArray, List.nil_append, List.cons_append]
  gi_wp2
  go_ret
  exact ⟨rfl, rfl⟩
/-- what has come when k rounds are over -/
def crc_upto (f : Nat → Int) (k : Nat) : List Int := (List.range k).map f
theorem crc_upto_succ (f : Nat → Int) (k : Nat) : crc_upto f (k + 1) = crc_upto f k ++ [f k] := by simp [crc_upto, List.range_succ]
theorem crc_upto_length (f : Nat → Int) (k : Nat) : (crc_upto f k).length = k := by simp [crc_upto]
/-- the j-th bit of bytes, the highest of each first -/
def crc_bitAt (l : List Int) (j : Nat) : Int := Go.bits .and .u32 ((l.getD (j / 8) 0) % 4294967296 / 2 ^ (7 - j % 8)) 1
set_option maxRecDepth 100000 in
set_option maxHeartbeats 2000000 in
theorem crc_bits1_in (F : Fence) (n : Nat) (h7 : F.fn 57) (hro : F.round = none) (hn : 1 ≤ n) (l Bs n₀ cap : Nat) (A : Option Addr) (zs : List Int) (len : Nat) (hlen : zs.length = len) (hreach : len ≤ 9223372036854775806) (J Jx : List Int → World → Prop)
    (hY : ∀ pre x W, J pre W → pre.length < len * 8 → YieldAt F (n - 1) Try.prog l #[.int .u32 x] W fun e W' =>
      (e = .returned (.bool true) ∧ J (pre ++ [x]) W' ∧ Below n₀ W W') ∨ (e = .returned (.bool false) ∧ Jx (pre ++ [x]) W'))
    (W : World) (hBs : W.cell? ⟨Bs, 0, none⟩ = some (.slice A len cap)) (hc : ∀ W', Below n₀ W W' → ∀ j, j < len → ∃ ad, A = some ad ∧ W'.cell? (ad.add j) = some (.int .u8 (zs[j]?.getD 0))) (h0 : J [] W) :
    CallsIn F n Try.prog 57 #[.func (.yield l) #[] #[], .pointer (some ⟨Bs, 0, none⟩)] W fun e W' => (∃ v, e = .returned v) ∧
      ((∃ ys, ys = crc_upto (crc_bitAt zs) (len * 8) ∧ J ys W') ∨ (∃ pre, (∃ k, k ≤ len * 8 ∧ pre = crc_upto (crc_bitAt zs) k) ∧ Jx pre W')) := by
  refine callsIn_of_wp Try.func57 rfl h7 ?_ hro
  simp only [Try.ntmps57, List.size_toArray, List.length_cons, List.length_nil, Nat.reduceAdd, Nat.reduceSub, Array.replicate_succ, Array.replicate_zero, List.push_toArray, List.append_toArray, List.nil_append, List.cons_append]
  gi_wp2
  gi_loopw [8] (fun i wr => ∃ k : Nat, k ≤ len ∧ i = .int .i64 k ∧ J (crc_upto (crc_bitAt zs) (k * 8)) wr ∧ Below n₀ W wr)
    (fun i _ => len - (intOf i).toNat)
  case atStart => exact ⟨0, Nat.zero_le _, rfl, h0, Below.refl _ _⟩
  case round =>
    obtain ⟨k, hk, rfl, hJs, hnx⟩ := hrel
    by_cases hlt : k < len
    · obtain ⟨ad, rfl, hcx'⟩ := hc wr hnx k hlt
      clear hc
      gi_wp2
      obtain ⟨wo, rfl⟩ : ∃ wo : World, wo = wr := ⟨_, rfl⟩
      gi_loopw [5] (fun i wr => ∃ q : Nat, q ≤ 8 ∧ i = .int .i64 (7 - q) ∧ J (crc_upto (crc_bitAt zs) (k * 8 + q)) wr ∧ Below n₀ W wr)
        (fun i _ => (intOf i + 1).toNat)
      case atStart => exact ⟨0, Nat.zero_le _, rfl, hJs, hnx⟩
      case round =>
        obtain ⟨q, hq, rfl, hJq, hnq⟩ := hrel
        by_cases hq8 : q < 8
        · obtain ⟨fn, tmps, assign, body, hy, hR⟩ := hY _ (crc_bitAt zs (k * 8 + q)) wr hJq (by rw [crc_upto_length]; omega)
          have hk' : k < zs.length := by omega
          have he : crc_bitAt zs (k * 8 + q) = Go.bits .and .u32 (zs[k] % 4294967296 / 2 ^ (7 - q)) 1 := by
            have e1 : (k * 8 + q) / 8 = k := by omega
            have e2 : (k * 8 + q) % 8 = q := by omega
            simp [crc_bitAt, e1, e2, hk']
          rw [he] at hy
          clear hY
          gi_wp2
          refine hR.mono ?_
          rintro e W3 (⟨rfl, hJ3, hk3⟩ | ⟨rfl, hJx3⟩)
          · gi_wp2
            go_roundw
            case rel => exact ⟨q + 1, by omega, by simp; omega, by rw [← Nat.add_assoc, crc_upto_succ]; exact hJ3, hnq.trans hk3⟩
            case measure => simp [intOf]; omega
          · gi_wp2
            refine bodyPost_ret (results_none rfl _ _ _) rfl ?_
            exact ⟨⟨_, rfl⟩, .inr ⟨_, ⟨k * 8 + q + 1, by omega, (crc_upto_succ _ _).symm⟩, hJx3⟩⟩
        · obtain rfl : q = 8 := by omega
          gi_wp2
          go_roundw
          case rel => exact ⟨k + 1, by omega, by simp, by rw [Nat.add_mul]; exact hJq, hnq⟩
          case measure => simp [intOf]; omega
    · obtain rfl : k = len := by omega
      gi_wp2
      go_end0
      exact ⟨⟨_, rfl⟩, .inl ⟨_, rfl, hJs⟩⟩

theorem crc_bits_stops (F : Fence) (n : Nat) (h7 : F.fn 57) (hro : F.round = none) (hn : 1 ≤ n) (Bs n₀ : Nat) (A : Option Addr) (cap : Nat) (zs : List Int) (len : Nat) (hlen : zs.length = len) (hreach : len ≤ 9223372036854775806) (w : World) (hBs : Bs < w.heap.size) (hn₀ : n₀ ≤ w.heap.size)
    (hc : w.cell? ⟨Bs, 0, none⟩ = some (.slice A len cap)) (hI : ∀ W', Below n₀ w W' → ∀ j, j < len → ∃ ad, A = some ad ∧ W'.cell? (ad.add j) = some (.int .u8 (zs[j]?.getD 0))) :
    SeqStopsK F n Try.prog 57 #[.pointer (some ⟨Bs, 0, none⟩)] (fun x : Int => #[Value.int .u32 x]) (Below n₀) (fun ys => ys = crc_upto (crc_bitAt zs) (len * 8)) (fun pre => ∃ k, k ≤ len * 8 ∧ pre = crc_upto (crc_bitAt zs) k) (len * 8) w := fun l J Jx W hW _ _ hY h0 =>
  crc_bits1_in F n h7 hro hn l Bs n₀ cap A zs len hlen hreach J Jx hY W ((hW.cell (p := ⟨Bs, 0, none⟩) hBs).trans hc) (fun W' hW' => hI W' ((hW.mono hn₀).trans hW')) h0
theorem crc_boxed_new {W : World} {B : Nat} {t : TypeId} {v : Value} (h : B = W.heap.size) : Boxed (W.alloc (.cells #[v] t)) B t v := by subst h; exact Boxed.new W t v
theorem crc_boxed_drewN {W : World} {B n : Nat} {t : TypeId} {v : Value} (h : Boxed W B t v) : Boxed (W.drewN n) B t v := h
theorem crc_boxed_drew {W : World} {B : Nat} {t : TypeId} {v : Value} (h : Boxed W B t v) : Boxed W.drew B t v := h
theorem crc_boxed_set {W : World} {B : Nat} {t : TypeId} {u v : Value} (h : Boxed W B t u) : Boxed (W.setCell ⟨B, 0, none⟩ v) B t v := h.set v
theorem crc_boxed_other {W : World} {B B' : Nat} {t : TypeId} {v u : Value} (h : Boxed W B t v) (hne : B ≠ B') : Boxed (W.setCell ⟨B', 0, none⟩ u) B t v := h.other hne u
theorem crc_below_drewN {B n : Nat} {a w : World} (h : Below B a w) : Below B a (w.drewN n) := h.trans ⟨rfl, rfl, rfl, Nat.le_refl _, fun _ _ => rfl⟩
theorem crc_below_drew {B : Nat} {a w : World} (h : Below B a w) : Below B a w.drew := h.drew
theorem crc_size_drewN (w : World) (n : Nat) : (w.drewN n).heap.size = w.heap.size := rfl
theorem crc_size_drew (w : World) : w.drew.heap.size = w.heap.size := rfl
theorem crc_boxed_z {W : World} {B : Nat} {t : TypeId} (h : Boxed W B t (.int .u32 0)) : Boxed W B t (.int .u32 0) := h
def CrcRel (B0 : Nat) (w1 : World) (x y : Int) (v5 v6 : Value) (wc : World) : Prop := ∃ b5 b6, v5 = .pointer (some ⟨b5, 0, none⟩) ∧ v6 = .pointer (some ⟨b6, 0, none⟩) ∧ b5 ≠ b6 ∧ B0 < b5 ∧ B0 < b6 ∧ Boxed wc b5 22 (.int .u32 x) ∧ Boxed wc b6 22 (.int .u32 y) ∧ Below (B0 + 1) w1 wc
def crc_step (a1 m : Int) (n1 : Nat) (s b : Int) : Int := if (Go.bits .xor .u32 (Go.bits .and .u32 (s / 2 ^ n1) 1) b == 1) = true then Go.bits .xor .u32 (Go.bits .and .u32 (s * 2 % 4294967296) m) a1 else Go.bits .and .u32 (s * 2 % 4294967296) m
def crc_sumOf (a1 m : Int) (n1 : Nat) (s : Int) (l : List Int) : Int := (crc_upto (crc_bitAt l) (l.length * 8)).foldl (crc_step a1 m n1) s
def crc_poly_sum.f (a0_0 a0_1 a0_2 : Int) (l1 : List Int) : Option Int := (crc_below_uint64.f a0_0).bind fun t => if 8 ≤ a0_0 ∧ a0_0 ≤ 32 ∧ l1.length ≤ 9223372036854775806 then some (crc_sumOf a0_1 (IntKind.u32.wrap t) (a0_0.toNat - 1) a0_2 l1) else none
set_option maxRecDepth 100000 in
set_option maxHeartbeats 40000000 in
theorem crc_poly_sum.calls (a0_0 : Int) (a0_1 : Int) (a0_2 : Int) (A1 : Option Addr) (c1 : Nat) (l1 : List Int) (r : Int) (w : World) (hr1 : Kd.C (Kd.int .u8) w A1 l1.length l1) (hc1 : l1.length ≤ c1) (h : crc_poly_sum.f a0_0 a0_1 a0_2 l1 = some r) :
    Calls Try.prog 52 #[.agg #[.int .i64 a0_0, .int .u32 a0_1, .int .u32 a0_2], .slice A1 l1.length c1] w fun e w' => e = .returned (.int .u32 r) ∧ Below w.heap.size w w' := by
  unfold crc_poly_sum.f at h
  obtain ⟨t, ht, h2⟩ := Option.bind_eq_some_iff.1 h
  clear h
  split at h2
  case isFalse => cases h2
  case isTrue hb =>
  obtain ⟨hb0, hb1, hb2⟩ := hb
  obtain rfl := Option.some.inj h2
  clear h2
  obtain ⟨m, hm⟩ : ∃ m, IntKind.u32.wrap t = m := ⟨_, rfl⟩
  rw [hm]
  have HM := Aside0.mk hm
  have HT := Aside0.mk ht
  clear hm
  have HC := Aside0.mk hr1
  clear ht hr1 hc1
  obtain ⟨len, hlen⟩ : ∃ m, l1.length = m := ⟨_, rfl⟩
  rw [hlen] at hb2 ⊢
  have HC1 : Aside0 (Kd.C (Kd.int .u8) w A1 len l1) := Aside0.mk (by rw [← hlen]; exact HC.out)
  refine (callsIn_wide (n := 3)).1 (callsIn_of_wp_marks Try.func52 rfl trivial ?_ rfl)
  simp only [Try.ntmps52, List.size_toArray, List.length_cons, List.length_nil, Nat.reduceAdd, Nat.reduceSub, Array.replicate_succ, Array.replicate_zero, List.push_toArray, List.append_toArray, List.nil_append, List.cons_append]
  refine wpIn_wide.2 ?_
  go_wp2
  have bP : ∀ B, B = w.heap.size → (w.alloc (Obj.cells #[Value.int IntKind.i64 a0_0, Value.int IntKind.u32 a0_1, Value.int IntKind.u32 a0_2] 74)).heap[B]? = some (.cells #[Value.int IntKind.i64 a0_0, Value.int IntKind.u32 a0_1, Value.int IntKind.u32 a0_2] 74) := fun B e => by subst e; exact World.alloc_heap_new w _
  have hb1_ : Below w.heap.size w (w.alloc (Obj.cells #[Value.int IntKind.i64 a0_0, Value.int IntKind.u32 a0_1, Value.int IntKind.u32 a0_2] 74)) := (Below.refl _ w).alloc (Nat.le_refl _) _
  have hs1_ : (w.alloc (Obj.cells #[Value.int IntKind.i64 a0_0, Value.int IntKind.u32 a0_1, Value.int IntKind.u32 a0_2] 74)).heap.size = w.heap.size + 1 := World.size_alloc _ _
  obtain ⟨B0, hB0⟩ : ∃ B0, B0 = w.heap.size := ⟨_, rfl⟩
  generalize (w.alloc (Obj.cells #[Value.int IntKind.i64 a0_0, Value.int IntKind.u32 a0_1, Value.int IntKind.u32 a0_2] 74)) = w1 at bP hb1_ hs1_ ⊢
  rw [← hB0] at bP hb1_ hs1_ ⊢
  replace bP := bP B0 rfl
  have hcp0 : w1.cell? ⟨B0, 0, none⟩ = some (.int .i64 a0_0) := by simp [World.cell?, bP]
  have hcp1 : w1.cell? ⟨B0, 1, none⟩ = some (.int .u32 a0_1) := by simp [World.cell?, bP]
  have hcp2 : w1.cell? ⟨B0, 2, none⟩ = some (.int .u32 a0_2) := by simp [World.cell?, bP]
  have HBE := Aside0.mk hb1_
  have hBE_ : B0 ≤ w.heap.size := Nat.le_of_eq hB0
  clear hb1_
  have HB0 := Aside0.mk hB0
  clear hB0 bP
  have hs1 : w1.heap.size = B0 + 1 := hs1_
  clear hs1_
  have hu74 := Try.underlying74
  refine wp_mono (Q := Exit.then ?K (fun _ _ _ => False)) ?_ (fun e a w h => ?hq)
  case hq => cases e <;> first | exact h | exact h.elim
  go_cut [5, 6] from 9 to 14 (fun v5 v6 wc => CrcRel B0 w1 a0_2 (IntKind.u32.wrap t) v5 v6 wc)
  case first =>
    clear HC HC1 HBE HB0 hlen hb2
    go_region_with (go_at_call 55; refine (crc_below_uint64.calls a0_0 t _ HT.out).mono ?_; rintro e w' ⟨rfl, ⟨nd, rfl⟩⟩)
    all_goals (go_wp2_with fail; go_meet; exact ⟨_, _, rfl, rfl, by omega, by omega, by omega, by repeat (first | assumption | (with_reducible refine crc_boxed_new ?_; simp only [World.size_alloc, World.size_setCell, crc_size_drewN, crc_size_drew, hs1]; done) | with_reducible refine crc_boxed_set (u := .int .u32 0) ?_ | (with_reducible refine crc_boxed_other ?_ ?hne; (case hne => omega)) | with_reducible refine crc_boxed_drewN ?_ | with_reducible refine crc_boxed_drew ?_ | with_reducible refine Boxed.alloc ?_ _), by repeat (first | assumption | (with_reducible refine crc_boxed_new ?_; simp only [World.size_alloc, World.size_setCell, crc_size_drewN, crc_size_drew, hs1]; done) | with_reducible refine crc_boxed_set (u := .int .u32 0) ?_ | (with_reducible refine crc_boxed_other ?_ ?hne; (case hne => omega)) | with_reducible refine crc_boxed_drewN ?_ | with_reducible refine crc_boxed_drew ?_ | with_reducible refine Boxed.alloc ?_ _), by repeat (first | exact Below.refl _ _ | (with_reducible refine Below.setCell ?_ ?hn _; (case hn => first | exact Nat.le_refl _ | exact Nat.le_succ _)) | (with_reducible refine Below.alloc ?_ ?hn _; (case hn => simp only [World.size_alloc, World.size_setCell, crc_size_drewN, crc_size_drew, hs1]; omega)) | with_reducible refine crc_below_drewN ?_ | with_reducible refine crc_below_drew ?_)⟩)
  case rest =>
    obtain ⟨b5, b6, rfl, rfl, h56, hB5, hB6, bS, bM, hbw⟩ := hcut
    rw [HM.out] at bM
    go_wp2_with (go_at_call 56; refine (callsIn_wide (n := 3)).1 ((crc_bits.is Fence.wide 3 trivial rfl _ _ _ _).mono ?_); rintro e w' ⟨rfl, rfl⟩)
    have bN := Boxed.new wc 26 (.slice A1 len c1)
    have hBW : Below B0 w (wc.alloc (.cells #[.slice A1 len c1] 26)) := (HBE.out.trans (hbw.mono (Nat.le_succ _))).alloc (by have := hbw.size; omega) _
    have hszw : B0 ≤ wc.heap.size := by have := hbw.size; omega
    have hBWc : Below (B0 + 1) wc (wc.alloc (.cells #[.slice A1 len c1] 26)) := (Below.refl _ wc).alloc (by have := hbw.size; omega) _
    have hp0 : (wc.alloc (.cells #[.slice A1 len c1] 26)).cell? ⟨B0, 0, none⟩ = some (.int .i64 a0_0) := (hBWc.cell (p := ⟨B0, 0, none⟩) (Nat.lt_succ_self _)).trans ((hbw.cell (p := ⟨B0, 0, none⟩) (Nat.lt_succ_self _)).trans hcp0)
    have hp1 : (wc.alloc (.cells #[.slice A1 len c1] 26)).cell? ⟨B0, 1, none⟩ = some (.int .u32 a0_1) := (hBWc.cell (p := ⟨B0, 1, none⟩) (Nat.lt_succ_self _)).trans ((hbw.cell (p := ⟨B0, 1, none⟩) (Nat.lt_succ_self _)).trans hcp1)
    have hB0' := HB0.out
    have hreads : ∀ W', Below B0 (wc.alloc (.cells #[.slice A1 len c1] 26)) W' → ∀ j, j < len → ∃ ad, A1 = some ad ∧ W'.cell? (ad.add j) = some (.int .u8 (l1[j]?.getD 0)) := by
      intro W' hW' j hj
      have h1 := Kd.reads_of_C (enc := Value.int .u8) (d := (0 : Int)) (h1 := fun _ => rfl) (Kd.C_below HC1.out (by rw [← HB0.out]; exact hBW.trans hW'))
      obtain ⟨ad, e, hc⟩ := h1.2.2 (by omega)
      exact ⟨ad, e, by rw [hc j hj, List.getD_eq_getElem?_getD]⟩
    clear hB0'
    refine (wpIn_wide (n := 3)).1 ?_
    refine wpIn_rangeFunc_ownF (n := 3) rfl (by decide) (gf := 57) (lb := #[.pointer (some ⟨wc.heap.size, 0, none⟩)]) rfl trivial (enters_of Try.func57 (by kernel_rfl) rfl)
      (crc_bits_stops Fence.wide (3 - 1) trivial rfl (by decide) wc.heap.size B0 A1 c1 l1 len hlen hb2 _ (by simp) (by simp; omega) bN.cell hreads) belowK_t (belowK_b (by simp; omega)) (Below.refl _ _) (fun _ => rfl)
      (fun pre W => ((W.cell? ⟨b5, 0, none⟩ = some (.int .u32 (pre.foldl (crc_step a0_1 m (a0_0.toNat - 1)) a0_2)) ∧ W.frozen? ⟨b5, 0, none⟩ = false) ∧ W.cell? ⟨b6, 0, none⟩ = some (.int .u32 m) ∧ W.cell? ⟨B0, 0, none⟩ = some (.int .i64 a0_0) ∧ W.cell? ⟨B0, 1, none⟩ = some (.int .u32 a0_1)) ∧ Below B0 w W)
      (fun _ _ _ => False)
      (OwnFrom.and (Own.from (fun s A B row hs hg hr => ⟨⟨cell_kept hs.1.1 hg hr, (frozen_kept hs.1.1 hg hr).trans hs.1.2⟩, cell_kept hs.2.1 hg hr, cell_kept hs.2.2.1 hg hr, cell_kept hs.2.2.2 hg hr⟩) _) (ownFrom_below (by have := hBE_; omega) (by simp; omega)))
      (fun _ _ _ _ _ hs _ _ => hs)
      ⟨⟨⟨(bS.alloc _).cell, (bS.alloc _).frozen⟩, (bM.alloc _).cell, hp0, hp1⟩, hBW⟩
      (fun x => { tmps := #[Value.agg #[Value.int IntKind.i64 a0_0, Value.int IntKind.u32 a0_1, Value.int IntKind.u32 a0_2],
          Value.slice A1 len c1, Value.pointer (some { block := B0, off := 0 }), undef, Value.int IntKind.u32 0,
          Value.pointer (some { block := b5, off := 0 }), Value.pointer (some { block := b6, off := 0 }), .int .u32 x, undef,
          u9, u10, u11, u12, u13, u14, Value.slice A1 len c1,
          Value.func (Fn.func 57) #[] #[Value.pointer (some { block := wc.heap.size, off := 0 })], .int .u32 x, undef, undef,
          undef, undef, undef, undef, undef, undef, undef, undef, undef, undef, undef, undef, undef, undef, undef,
          undef, undef], defers := [] }) ?assign ?body ?done ?stop
    case assign =>
      intro l x W K hK
      gi_wp2
      exact hK
    case body =>
      rintro l pre x W ⟨⟨⟨hc, hf⟩, hm, hq0, hq1⟩, hB⟩ _
      obtain ⟨s, hs⟩ : ∃ s, pre.foldl (crc_step a0_1 m (a0_0.toNat - 1)) a0_2 = s := ⟨_, rfl⟩
      rw [hs] at hc
      have HS := Aside0.mk hs
      clear hs
      clear hcp0 hcp1 hcp2 hbw bS bM hp0 hp1 hreads bN
      gi_wp2
      · rename_i hx
        have e6 : ∀ (W : World) v, (W.setCell ⟨b5, 0, none⟩ v).cell? ⟨b6, 0, none⟩ = W.cell? ⟨b6, 0, none⟩ := fun W v => World.cell?_of_block (w := W) (Below.heap_setCell W _ _ b6 (Ne.symm h56))
        have e0 : ∀ (W : World) v o, (W.setCell ⟨b5, 0, none⟩ v).cell? ⟨B0, o, none⟩ = W.cell? ⟨B0, o, none⟩ := fun W v o => World.cell?_of_block (w := W) (Below.heap_setCell W _ _ B0 (Nat.ne_of_lt hB5))
        refine ⟨(KeepsOthers.setCell _ _ _).trans (KeepsOthers.setCell _ _ _), ((Below.refl B0 W).setCell (p := ⟨b5, 0, none⟩) (Nat.le_of_lt hB5) _).setCell (p := ⟨b5, 0, none⟩) (Nat.le_of_lt hB5) _, ⟨⟨?_, ?_⟩, ?_, ?_, ?_⟩, (hB.setCell (p := ⟨b5, 0, none⟩) (Nat.le_of_lt hB5) _).setCell (p := ⟨b5, 0, none⟩) (Nat.le_of_lt hB5) _⟩
        · rw [List.foldl_append, HS.out]
          simp only [List.foldl_cons, List.foldl_nil, crc_step]
          rw [if_pos hx]
          exact World.cell?_setCell_same' _ _ _ (by rw [World.cell?_setCell_same' _ _ _ (by rw [hc]; rfl)]; rfl)
        · rw [World.frozen?_setCell, World.frozen?_setCell]; exact hf
        · rw [e6, e6]; exact hm
        · rw [e0, e0]; exact hq0
        · rw [e0, e0]; exact hq1
      · rename_i hx
        have e6 : ∀ (W : World) v, (W.setCell ⟨b5, 0, none⟩ v).cell? ⟨b6, 0, none⟩ = W.cell? ⟨b6, 0, none⟩ := fun W v => World.cell?_of_block (w := W) (Below.heap_setCell W _ _ b6 (Ne.symm h56))
        have e0 : ∀ (W : World) v o, (W.setCell ⟨b5, 0, none⟩ v).cell? ⟨B0, o, none⟩ = W.cell? ⟨B0, o, none⟩ := fun W v o => World.cell?_of_block (w := W) (Below.heap_setCell W _ _ B0 (Nat.ne_of_lt hB5))
        refine ⟨(KeepsOthers.setCell _ _ _), ((Below.refl B0 W).setCell (p := ⟨b5, 0, none⟩) (Nat.le_of_lt hB5) _), ⟨⟨?_, ?_⟩, ?_, ?_, ?_⟩, (hB.setCell (p := ⟨b5, 0, none⟩) (Nat.le_of_lt hB5) _)⟩
        · rw [List.foldl_append, HS.out]
          simp only [List.foldl_cons, List.foldl_nil, crc_step]
          rw [if_neg (by rw [hx]; exact Bool.noConfusion)]
          exact World.cell?_setCell_same' _ _ _ (by rw [hc]; rfl)
        · rw [World.frozen?_setCell]; exact hf
        · rw [e6]; exact hm
        · rw [e0]; exact hq0
        · rw [e0]; exact hq1
    case done =>
      rintro D ys W hD rfl ⟨⟨⟨hc, _⟩, _⟩, hB⟩ hK
      clear hcp0 hcp1 hcp2 hp0 hp1 hreads
      have hsum : (crc_upto (crc_bitAt l1) (len * 8)).foldl (crc_step a0_1 m (a0_0.toNat - 1)) a0_2 = crc_sumOf a0_1 m (a0_0.toNat - 1) a0_2 l1 := by unfold crc_sumOf; rw [hlen]
      rw [hsum] at hc
      gi_wp2
      go_wp2
      refine ⟨by simp, .inl ⟨_, _, rfl, run_takeDeferred hK, ?_⟩⟩
      exact ⟨_, results_tmp rfl _ _ _, rfl, by rw [← HB0.out]; exact hB.trans (belowK_b (w := w) hBE_ W D _ _ (by simp at hD; have := HB0.out; have := hszw; omega) hK rfl rfl)⟩
    case stop =>
      rintro D c pre W _ _ h _
      exact h.elim
end

/-! ### crc_whole: function 54 -/
def crc_whole.f  : Option (Int × Int × Int) := some (24, 6122955, 16702650)
set_option maxHeartbeats 8000000 in
set_option maxRecDepth 100000 in
theorem crc_whole.calls  (r1 : Int) (r2 : Int) (r3 : Int) (w : World) (h : crc_whole.f  = some (r1, r2, r3)) :
    Calls Try.prog 54 #[] w fun e w' => e = .returned (.agg #[.int .i64 r1, .int .u32 r2, .int .u32 r3]) ∧ Below w.heap.size w w' := by
  have hu74 := Try.underlying74
  have HB := Aside0.mk (Below.refl w.heap.size w)
  have H : (some (24, 6122955, 16702650)) = some (r1, r2, r3) := h
  clear h
  simp only [Option.some.injEq, Prod.mk.injEq] at H
  obtain ⟨rfl, rfl, rfl⟩ := H
  go_enter Try.func54, Try.ntmps54
  go_wp2_with (first | ((with_reducible refine gate_dst (N := 0) rfl ?_); refine box_event ?hg (N := 0) ?hd (cs := #[.int .i64 0, .int .u32 0, .int .u32 0]) (t := 74) ?hr ?_; (case hd => rfl); (case hg => rfl); (case hr => first | (go_simp; done) | (go_simp; rfl)); intro gb101 hg w1 hbox hb; have n0_ := Aside0.mk (below_step (by repeat (first | (with_reducible first | exact HB.out | apply below_alloc | apply pw_below_drewN | apply below_drew1) | exact HB.out)) hb); have n1_ := Aside0.mk (hbox); have n2_ := Aside0.mk ((by rw [hg]; exact (below_size (by repeat (first | (with_reducible first | exact HB.out | apply below_alloc | apply pw_below_drewN | apply below_drew1) | exact HB.out))) : w.heap.size ≤ gb101)); have n3_ := Aside0.mk ((by rw [hg]; exact (below_size (by repeat (first | (with_reducible first | exact HB.out | apply below_alloc | apply pw_below_drewN | apply below_drew1) | exact HB.out))) : w.heap.size ≤ gb101)); clear HB; have HB := n0_; have BK101 := n1_; have GW101 := n2_; have GE101 := n3_; clear n0_ n1_ n2_ n3_; clear hb hbox hg; have hcz2_0 : w1.cell? ⟨gb101, 0, none⟩ = some (.int .i64 0) := (blk_cell BK101.out 0).trans rfl; have hcz2_1 : w1.cell? ⟨gb101, 1, none⟩ = some (.int .u32 0) := (blk_cell BK101.out 1).trans rfl; have hcz2_2 : w1.cell? ⟨gb101, 2, none⟩ = some (.int .u32 0) := (blk_cell BK101.out 2).trans rfl; have hfz2_0 := blk_frozen BK101.out 0; have hfz2_1 := blk_frozen BK101.out 1; have hfz2_2 := blk_frozen BK101.out 2))
  refine bodyPost_ret (results_cell_row rfl _ _ gb101 74 #[.int .i64 24, .int .u32 6122955, .int .u32 16702650] (0, 0) _ rfl (by (with_reducible repeat (first | refine blk_drewN ?_ _ | refine blk_drew ?_ | refine blk_alloc ?_ _)); refine blk_put (cs := #[.int .i64 24, .int .u32 6122955, .int .u32 0]) ?_ 2 _ rfl; (with_reducible repeat (first | refine blk_drewN ?_ _ | refine blk_drew ?_ | refine blk_alloc ?_ _)); refine blk_put (cs := #[.int .i64 24, .int .u32 0, .int .u32 0]) ?_ 1 _ rfl; (with_reducible repeat (first | refine blk_drewN ?_ _ | refine blk_drew ?_ | refine blk_alloc ?_ _)); refine blk_put (cs := #[.int .i64 0, .int .u32 0, .int .u32 0]) ?_ 0 _ rfl; (with_reducible repeat (first | refine blk_drewN ?_ _ | refine blk_drew ?_ | refine blk_alloc ?_ _)); exact BK101.out) Try.underlying74 rfl (by kernel_rfl)) rfl ?_
  exact ⟨by first | rfl | (simp [errW_none, errW_some] <;> rfl) | (simp [*, errW_none, errW_some] <;> rfl), by repeat (first | (with_reducible first | exact HB.out | apply below_alloc | apply pw_below_drewN | apply below_drew1 | refine below_set ?_ GE101.out) | exact HB.out)⟩

/-! ### crc_Whole: function 40 -/
def crc_Whole.f (l0 : List Int) : Option (Int) := (crc_whole.f).bind fun bt102 => ((crc_poly_sum.f bt102.1 bt102.2.1 bt102.2.2 l0).bind fun t105 => (some t105))
set_option maxHeartbeats 8000000 in
set_option maxRecDepth 100000 in
theorem crc_Whole.calls (A0 : Option Addr) (c0 : Nat) (l0 : List Int) (r : Int) (w : World) (hr0 : Kd.C (Kd.int .u8) w A0 l0.length l0) (hc0 : l0.length ≤ c0) (h : crc_Whole.f l0 = some r) :
    Calls Try.prog 40 #[.slice A0 l0.length c0] w fun e w' => e = .returned (.int .u32 r) ∧ Below w.heap.size w w' := by
  have HR0 := Aside0.mk hr0
  have HC0 := Aside0.mk hc0
  clear hr0 hc0
  have HB := Aside0.mk (Below.refl w.heap.size w)
  have H : ((crc_whole.f).bind fun bt102 => ((crc_poly_sum.f bt102.1 bt102.2.1 bt102.2.2 l0).bind fun t105 => (some t105))) = some r := h
  clear h
  replace H := Option.bind_eq_some_iff.mp H
  obtain ⟨⟨t102, t103, t104⟩, A20, H⟩ := H
  replace H : ((crc_poly_sum.f t102 t103 t104 l0).bind fun t105 => (some t105)) = some r := H
  have A2 := Aside0.mk A20
  clear A20
  replace H := Option.bind_eq_some_iff.mp H
  obtain ⟨t105, A30, H⟩ := H
  replace H : (some t105) = some r := H
  have A3 := Aside0.mk A30
  clear A30
  obtain rfl := Option.some.inj H
  go_enter Try.func40, Try.ntmps40
  go_wp2_with (first | ((with_reducible refine gate_callee (f := 54) rfl ?_); refine goesL_ (some 3) rfl rfl Try.func54 (by kernel_rfl) rfl #[] rfl (by (try simp only [List.map_toArray, List.map_cons, List.map_nil]); first | done | rfl | (simp only [List.length_drop, List.length_take]; rfl)) ?_; (with_reducible refine (crc_whole.calls  t102 t103 t104 _ A2.out).mono ?_); rintro e w4 ⟨rfl, hb⟩; refine ⟨_, rfl, ?_⟩; have n0_ := Aside0.mk (below_step (by repeat (first | (with_reducible first | exact HB.out | apply below_alloc | apply pw_below_drewN | apply below_drew1) | exact HB.out)) hb); clear HB; have HB := n0_; clear n0_; (try clear hb); (try clear hb2); (try clear hk); (try clear hi)) | ((with_reducible refine gate_callee (f := 52) rfl ?_); refine goesL_ (some 5) rfl rfl Try.func52 (by kernel_rfl) rfl #[.agg #[.int .i64 t102, .int .u32 t103, .int .u32 t104], .slice A0 l0.length c0] rfl (by (try simp only [List.map_toArray, List.map_cons, List.map_nil]); first | done | rfl | (simp only [List.length_drop, List.length_take]; rfl)) ?_; (with_reducible refine (crc_poly_sum.calls t102 t103 t104 _ _ l0 t105 _ ?side1 ?side2 A3.out).mono ?_); (case side1 => repeat (first | exact (Kd.C_below HR0.out HB.out) | (with_reducible refine Kd.C_alloc ?_ _) | (with_reducible refine Kd.C_drewN ?_ _) | (with_reducible refine Kd.C_drew ?_))); (case side2 => exact HC0.out); rintro e w5 ⟨rfl, hb⟩; refine ⟨_, rfl, ?_⟩; have n0_ := Aside0.mk (below_step (by repeat (first | (with_reducible first | exact HB.out | apply below_alloc | apply pw_below_drewN | apply below_drew1) | exact HB.out)) hb); clear HB; have HB := n0_; clear n0_; (try clear hb); (try clear hb2); (try clear hk); (try clear hi)))
  go_ret
  exact ⟨by first | rfl | (simp [errW_none, errW_some] <;> rfl) | (simp [*, errW_none, errW_some] <;> rfl), by repeat (first | (with_reducible first | exact HB.out | apply below_alloc | apply pw_below_drewN | apply below_drew1) | exact HB.out)⟩

/-! ### crc_Fix: function 32 -/
def crc_Fix.l0 : Nat → Int → List Int → Int → Option (List Int)
  | 0, _, _, _ => none
  | k + 1, x3, x4, x5 => if x5 ≥ 0 then (if 0 ≤ (wrap64 (8 * x5)) then (if x4.length < 140737488355328 then (crc_Fix.l0 k x3 (x4 ++ [(shr .u32 x3 (wrap64 (8 * x5))) % 256]) (wrap64 (x5 - 1))) else (none)) else (none)) else (some x4)
def crc_Fix.f (k : Nat) (l0 : List Int) : Option (List Int) := (crc_Whole.f l0).bind fun t106 => (if 0 ≤ (wrap64 ((l0.length : Int) + 3)) then (if (wrap64 ((l0.length : Int) + 3) : Int).toNat ≤ 281474976710656 then ((some (List.replicate 0 0 : List Int)).bind fun y107 => (if y107.length + l0.length < 140737488355328 then (crc_Fix.l0 k t106 (y107 ++ l0) 2) else (none))) else (none)) else (none))
theorem crc_Fix.mono_l : ∀ k, (∀ y0 y1 y2, LeO (crc_Fix.l0 k y0 y1 y2) (crc_Fix.l0 (k + 1) y0 y1 y2))
  | 0 => fun _ _ _ r h => by simp [crc_Fix.l0] at h
  | k + 1 => by
    have ih0 := crc_Fix.mono_l k
    · intro y0 y1 y2
      unfold crc_Fix.l0
      repeat' first
      | (with_reducible exact ih0 _ _ _)
      | (with_reducible exact LeO.refl _)
      | (with_reducible exact LeO.none _)
      | (with_reducible refine LeO.ite ?_ ?_)
      | (with_reducible refine LeO.bind ?_ (fun _ => ?_))
      | exact ih0 _ _ _
      | exact LeO.none _
      | refine LeO.ite ?_ ?_
      | refine LeO.bind ?_ (fun _ => ?_)
theorem crc_Fix.mono : ∀ a0 k, LeO (crc_Fix.f k a0) (crc_Fix.f (k + 1) a0) := by
  intro a0 k
  have ih0 := crc_Fix.mono_l k
  unfold crc_Fix.f
  repeat' first
      | (with_reducible exact ih0 _ _ _)
      | (with_reducible exact LeO.refl _)
      | (with_reducible exact LeO.none _)
      | (with_reducible refine LeO.ite ?_ ?_)
      | (with_reducible refine LeO.bind ?_ (fun _ => ?_))
      | exact ih0 _ _ _
      | exact LeO.none _
      | refine LeO.ite ?_ ?_
      | refine LeO.bind ?_ (fun _ => ?_)
set_option maxHeartbeats 8000000 in
set_option maxRecDepth 100000 in
theorem crc_Fix.calls (k : Nat) (A0 : Option Addr) (c0 : Nat) (l0 : List Int) (r : List Int) (w : World) (hr0 : Kd.C (Kd.int .u8) w A0 l0.length l0) (hc0 : l0.length ≤ c0) (h : crc_Fix.f k l0 = some r) :
    Calls Try.prog 32 #[.slice A0 l0.length c0] w fun e w' => ∃ v0_ : Value, e = .returned (v0_) ∧ Kd.R (Kd.int .u8) 5 w' w.heap.size (fun _ => True) v0_ r ∧ Below w.heap.size w w' := by
  have HR0 := Aside0.mk hr0
  have HC0 := Aside0.mk hc0
  clear hr0 hc0
  have HB := Aside0.mk (Below.refl w.heap.size w)
  have H : ((crc_Whole.f l0).bind fun t106 => (if 0 ≤ (wrap64 ((l0.length : Int) + 3)) then (if (wrap64 ((l0.length : Int) + 3) : Int).toNat ≤ 281474976710656 then ((some (List.replicate 0 0 : List Int)).bind fun y107 => (if y107.length + l0.length < 140737488355328 then (crc_Fix.l0 k t106 (y107 ++ l0) 2) else (none))) else (none)) else (none))) = some r := h
  clear h
  replace H := Option.bind_eq_some_iff.mp H
  obtain ⟨t106, A20, H⟩ := H
  replace H : (if 0 ≤ (wrap64 ((l0.length : Int) + 3)) then (if (wrap64 ((l0.length : Int) + 3) : Int).toNat ≤ 281474976710656 then ((some (List.replicate 0 0 : List Int)).bind fun y107 => (if y107.length + l0.length < 140737488355328 then (crc_Fix.l0 k t106 (y107 ++ l0) 2) else (none))) else (none)) else (none)) = some r := H
  have A2 := Aside0.mk A20
  clear A20
  obtain ⟨ji3, hji3⟩ : ∃ j_ : Int, (wrap64 ((l0.length : Int) + 3)) = j_ := ⟨_, rfl⟩
  replace H : (if 0 ≤ (ji3) then (if (ji3 : Int).toNat ≤ 281474976710656 then ((some (List.replicate 0 0 : List Int)).bind fun y107 => (if y107.length + l0.length < 140737488355328 then (crc_Fix.l0 k t106 (y107 ++ l0) 2) else (none))) else (none)) else (none)) = some r := by first | (rw [hji3] at H; exact H) | (simp only [hji3] at H ⊢; exact H)
  (try rw [hji3] at A2)
  have hji3w : (IntKind.i64.wrap ((l0.length : Int) + 3)) = ji3 := (i64_w _).trans hji3
  by_cases c4 : 0 ≤ (ji3)
  · rw [if_pos c4] at H
    have c4b0 := eq_true c4
    have c4b1 : decide (0 ≤ (ji3)) = true := decide_eq_true c4
    clear c4
    by_cases c5 : (ji3 : Int).toNat ≤ 281474976710656
    · rw [if_pos c5] at H
      have c5b0 := eq_true c5
      have c5b1 : decide ((ji3 : Int).toNat ≤ 281474976710656) = true := decide_eq_true c5
      clear c5
      obtain ⟨y107, hy107⟩ : ∃ y_ : List Int, y_ = (List.replicate 0 0) := ⟨_, rfl⟩
      replace H : (if y107.length + l0.length < 140737488355328 then (crc_Fix.l0 k t106 (y107 ++ l0) 2) else (none)) = some r := by first | (rw [hy107]; with_reducible exact H) | (have H2_ := (Option.bind_some _ _).symm.trans H; rw [hy107]; with_reducible exact H2_) | (have H2_ := (Option.bind_some _ _).symm.trans H; with_reducible exact H2_) | with_reducible exact H | (rw [hy107]; exact H) | exact H
      have Ny107 := Aside0.mk hy107
      clear hy107
      by_cases c6 : y107.length + l0.length < 140737488355328
      · rw [if_pos c6] at H
        have LMc6 := Aside0.mk c6
        clear c6
        obtain ⟨y110, hy110⟩ : ∃ y_ : List Int, y_ = (y107 ++ l0) := ⟨_, rfl⟩
        replace H : (crc_Fix.l0 k t106 y110 2) = some r := by first | (rw [hy110]; with_reducible exact H) | (have H2_ := (Option.bind_some _ _).symm.trans H; rw [hy110]; with_reducible exact H2_) | (have H2_ := (Option.bind_some _ _).symm.trans H; with_reducible exact H2_) | with_reducible exact H | (rw [hy110]; exact H) | exact H
        have Ny110 := Aside0.mk hy110
        clear hy110
        have H' := Aside0.mk H
        clear H
        go_enter Try.func32, Try.ntmps32
        go_wp2_with (first | ((with_reducible refine gate_callee (f := 40) rfl ?_); refine goesL_ (some 7) rfl rfl Try.func40 (by kernel_rfl) rfl #[.slice A0 l0.length c0] rfl (by (try simp only [List.map_toArray, List.map_cons, List.map_nil]); first | done | rfl | (simp only [List.length_drop, List.length_take]; rfl)) ?_; (with_reducible refine (crc_Whole.calls _ _ l0 t106 _ ?side1 ?side2 A2.out).mono ?_); (case side1 => repeat (first | exact HR0.out | (with_reducible refine Kd.C_alloc ?_ _) | (with_reducible refine Kd.C_drewN ?_ _) | (with_reducible refine Kd.C_drew ?_))); (case side2 => exact HC0.out); rintro e w7 ⟨rfl, hb⟩; refine ⟨_, rfl, ?_⟩; have n0_ := Aside0.mk (below_step (by repeat (first | (with_reducible first | exact HB.out | apply below_alloc | apply pw_below_drewN | apply below_drew1) | exact HB.out)) hb); clear HB; have HB := n0_; clear n0_; (try clear hb); (try clear hb2); (try clear hk); (try clear hi)) | ((with_reducible refine gate_dst (N := 11) rfl ?_); refine Kd.R_makecap (Kd.int .u8) _ 5 rfl (N := 11) rfl 26 _ _ rfl 0 _ rfl rfl Try.underlying26 (.int .u8 0) 1 info5 rfl (by decide) (by omega) 0 (ok := fun _ => True) (okp := fun _ => True) rfl (fun _ hk => hk) trivial (by first | omega | exact of_decide_eq_true (by first | (with_reducible assumption) | assumption)) (by first | omega | exact of_decide_eq_true (by first | (with_reducible assumption) | assumption)) (by first | omega | exact (Nat.le_trans (Nat.mul_le_mul_right _ (of_decide_eq_true (by first | (with_reducible assumption) | assumption))) (by omega))) (Below.refl _ _) (Nat.le_refl _) ?_; intro v108 w8 ho9 hb hg_ hnew_; clear hg_ hnew_; (first | rw [← Ny107.out] at ho9 | (simp only [Int.reduceToNat] at ho9; rw [← Ny107.out] at ho9)); have n0_ := Aside0.mk (Kd.R_lower ho9 (below_size (by repeat (first | (with_reducible first | exact HB.out | apply below_alloc | apply pw_below_drewN | apply below_drew1) | exact HB.out)))); have n1_ := Aside0.mk (below_step (by repeat (first | (with_reducible first | exact HB.out | apply below_alloc | apply pw_below_drewN | apply below_drew1) | exact HB.out)) hb); clear HB; have HO109 := n0_; have HB := n1_; clear n0_ n1_; clear hb ho9) | ((with_reducible refine gate_builtin (b := .append) (xs := #[.tmp 11, .tmp 12]) rfl ?_); at_builtin; refine Kd.R_append_rows (Kd.int .u8) (w0 := w) w.heap.size rfl (.tmp 11) (.tmp 12) 26 5 (.int .u8 0) 1 rfl Try.underlying26 info5 rfl (by decide) (by omega) v108 y107 l0 _ _ _ (fun _ => True) (fun _ => False) rfl rfl ?aO ?aR (fun _ _ h => h) (fun _ h => h.elim) ?aF ?aB ?aS ?aL ?_; (case aR => repeat (first | exact (Kd.C_below HR0.out HB.out) | (with_reducible refine Kd.C_alloc ?_ _) | (with_reducible refine Kd.C_drewN ?_ _) | (with_reducible refine Kd.C_drew ?_))); (case aB => exact (by repeat (first | (with_reducible first | exact HB.out | apply below_alloc | apply pw_below_drewN | apply below_drew1) | exact HB.out))); (case aF => exact (fun _ _ => trivial)); (case aO => exact (by (with_reducible repeat (first | apply Kd.R_alloc | apply Kd.R_drewN | apply Kd.R_drew)); exact HO109.out)); (case aS => exact (below_size (by repeat (first | (with_reducible first | exact HB.out | apply below_alloc | apply pw_below_drewN | apply below_drew1) | exact HB.out)))); (case aL => have := LMc6.out; omega); intro v111 w10 ho hb hg hat; rw [← Ny110.out] at ho; have n0_ := Aside0.mk (hb); have n1_ := Aside0.mk (ho); clear HB; clear HO109; have HB := n0_; have HO112 := n1_; clear n0_ n1_; clear ho hb hg hat))
        go_loopg [4, 5] k (fun kq v4 v5 w' => ∃ (x4_1 : List Int) (x5_1 : Int), v5 = .int .i64 x5_1 ∧ Aside0 (crc_Fix.l0 kq t106 x4_1 x5_1 = some r) ∧ Aside0 (kq ≤ k) ∧ Aside0 (Kd.R (Kd.int .u8) 5 w' w.heap.size (fun _ => True) v4 x4_1) ∧ Aside0 (Below w.heap.size w w'))
        case atStart => exact ⟨(y110), (2), (by first | rfl | (simp; done) | (simp [*]; done)), H', ⟨Nat.le_refl _⟩, ⟨by (with_reducible repeat (first | apply Kd.R_alloc | apply Kd.R_drewN | apply Kd.R_drew)); exact HO112.out⟩, ⟨by repeat (first | (with_reducible first | exact HB.out | apply below_alloc | apply pw_below_drewN | apply below_drew1) | exact HB.out)⟩⟩
        case round =>
          clear H'
          try clear p2
          try clear c3
          try clear c4
          try clear c4b0
          try clear c4b1
          try clear c5
          try clear c5b0
          try clear c5b1
          try clear c6
          try clear p6
          obtain ⟨x4_1, x5_1, rfl, HA, HK1, HO_4, HB⟩ := hrel
          cases gk with
          | zero => exact absurd HA.out (by simp [crc_Fix.l0])
          | succ k1 =>
            have H := HA.out
            clear HA
            simp only [crc_Fix.l0] at H
            by_cases c11 : x5_1 ≥ 0
            · rw [if_pos c11] at H
              have c11b0 : decide (0 ≤ x5_1) = true := decide_eq_true c11
              clear c11
              obtain ⟨ji12, hji12⟩ : ∃ j_ : Int, (wrap64 (8 * x5_1)) = j_ := ⟨_, rfl⟩
              replace H : (if 0 ≤ (ji12) then (if x4_1.length < 140737488355328 then (crc_Fix.l0 k1 t106 (x4_1 ++ [(shr .u32 t106 (ji12)) % 256]) (wrap64 (x5_1 - 1))) else (none)) else (none)) = some r := by first | (rw [hji12] at H; exact H) | (simp only [hji12] at H ⊢; exact H)
              have hji12w : (IntKind.i64.wrap (8 * x5_1)) = ji12 := (i64_w _).trans hji12
              by_cases c13 : 0 ≤ (ji12)
              · rw [if_pos c13] at H
                have c13b0 := eq_true c13
                have c13b1 : decide (0 ≤ (ji12)) = true := decide_eq_true c13
                clear c13
                obtain ⟨ji14, hji14⟩ : ∃ j_ : Int, (shr .u32 t106 (ji12)) = j_ := ⟨_, rfl⟩
                replace H : (if x4_1.length < 140737488355328 then (crc_Fix.l0 k1 t106 (x4_1 ++ [(ji14) % 256]) (wrap64 (x5_1 - 1))) else (none)) = some r := by first | (rw [hji14] at H; exact H) | (simp only [hji14] at H ⊢; exact H)
                have hji14_ : (t106 / 2 ^ min (ji12).toNat 32) = ji14 := hji14
                have hji14z : (ji12) ≤ 32 → (t106 / 2 ^ (ji12).toNat) = ji14 := shr_small hji14
                by_cases c15 : x4_1.length < 140737488355328
                · rw [if_pos c15] at H
                  have LMc15 := Aside0.mk c15
                  clear c15
                  obtain ⟨y113, hy113⟩ : ∃ y_ : List Int, y_ = (x4_1 ++ [(ji14) % 256]) := ⟨_, rfl⟩
                  replace H : (crc_Fix.l0 k1 t106 y113 (wrap64 (x5_1 - 1))) = some r := by first | (rw [hy113]; with_reducible exact H) | (have H2_ := (Option.bind_some _ _).symm.trans H; rw [hy113]; with_reducible exact H2_) | (have H2_ := (Option.bind_some _ _).symm.trans H; with_reducible exact H2_) | with_reducible exact H | (rw [hy113]; exact H) | exact H
                  have Ny113 := Aside0.mk hy113
                  clear hy113
                  have H' := Aside0.mk H
                  clear H
                  go_wp2_with (first | ((with_reducible refine gate_builtin (b := .append) (xs := #[.tmp 18, .tmp 24]) rfl ?_); at_builtin; refine Kd.R_append (Kd.int .u8) (w0 := w) w.heap.size rfl (.tmp 18) (.tmp 24) 26 5 (.int .u8 0) 1 rfl Try.underlying26 info5 rfl (by decide) (by omega) u4 x4_1 ((ji14) % 256) [.int .u8 ((ji14) % 256)] (fun _ => True) (fun _ => False) rfl rfl ?aP (fun _ hk => hk.elim) ?aF ?aO ?aB ?aS ?aL ?_; (case aP => exact rfl); (case aB => exact (by repeat (first | (with_reducible first | exact HB.out | apply below_alloc | apply pw_below_drewN | apply below_drew1) | exact HB.out))); (case aF => exact (fun _ _ => trivial)); (case aO => exact (by (with_reducible repeat (first | apply Kd.R_alloc | apply Kd.R_drewN | apply Kd.R_drew)); exact HO_4.out)); (case aS => exact (below_size (by repeat (first | (with_reducible first | exact HB.out | apply below_alloc | apply pw_below_drewN | apply below_drew1) | exact HB.out)))); (case aL => have := LMc15.out; omega); intro v114 w16 ho hb hg hat; rw [← Ny113.out] at ho; have n0_ := Aside0.mk (hb); have n1_ := Aside0.mk (ho); clear HB; clear HO_4; have HB := n0_; have HO115 := n1_; clear n0_ n1_; clear ho hb hg hat))
                  go_roundg k1
                  case measure => have := HK1.out; omega
                  case rel => exact ⟨(y113), (wrap64 (x5_1 - 1)), (by first | rfl | (simp; done) | (simp [*]; done)), H', ⟨by have := HK1.out; omega⟩, ⟨by (with_reducible repeat (first | apply Kd.R_alloc | apply Kd.R_drewN | apply Kd.R_drew)); exact HO115.out⟩, ⟨by repeat (first | (with_reducible first | exact HB.out | apply below_alloc | apply pw_below_drewN | apply below_drew1) | exact HB.out)⟩⟩
                · rw [if_neg c15] at H
                  exact absurd H (by simp)
              · rw [if_neg c13] at H
                exact absurd H (by simp)
            · rw [if_neg c11] at H
              have c11b0 : decide (0 ≤ x5_1) = false := decide_eq_false c11
              clear c11
              obtain rfl := Option.some.inj H
              go_wp2
              go_ret
              exact ⟨_, by first | rfl | (simp [errW_none, errW_some] <;> rfl) | (simp only [← hji3]; first | rfl | (simp [errW_none, errW_some] <;> rfl)) | (simp [*, errW_none, errW_some] <;> rfl), by (with_reducible repeat (first | apply Kd.R_alloc | apply Kd.R_drewN | apply Kd.R_drew)); exact HO_4.out, by repeat (first | (with_reducible first | exact HB.out | apply below_alloc | apply pw_below_drewN | apply below_drew1) | exact HB.out)⟩
      · rw [if_neg c6] at H
        exact absurd H (by simp)
    · rw [if_neg c5] at H
      exact absurd H (by simp)
  · rw [if_neg c4] at H
    exact absurd H (by simp)

/-! ### crc_Good: function 33 -/
-- EXT carillon/crc.Good
-- INFO 5
def crc_gath (t : List Int) : Int := t.foldl (fun x c => Go.bits .or .u32 ((x * 256) % 4294967296) (c % 4294967296)) 0
theorem crc_gath_succ (t : List Int) (k : Nat) (hk : k < t.length) : crc_gath (t.take (k + 1)) = Go.bits .or .u32 ((crc_gath (t.take k) * 256) % 4294967296) (t.getD k 0 % 4294967296) := by
  unfold crc_gath
  rw [List.take_succ_eq_append_getElem hk, List.foldl_append, List.getD_eq_getElem?_getD, List.getElem?_eq_getElem hk]
  rfl
def crc_Good.f (l0 : List Int) : Option Bool := if l0.length ≤ 9223372036854775806 then (if l0.length < 3 then some false else (crc_Whole.f (l0.take (l0.length - 3))).bind fun s => some (crc_gath (l0.drop (l0.length - 3)) == s)) else none
set_option maxHeartbeats 2000000 in
set_option maxRecDepth 100000 in
theorem crc_Good.calls (A0 : Option Addr) (c0 : Nat) (l0 : List Int) (r : Bool) (w : World) (hr0 : Kd.C (Kd.int .u8) w A0 l0.length l0) (hc0 : l0.length ≤ c0) (h : crc_Good.f l0 = some r) :
    Calls Try.prog 33 #[.slice A0 l0.length c0] w fun e w' => e = .returned (.bool r) ∧ Below w.heap.size w w' := by
  unfold crc_Good.f at h
  split at h
  case isFalse => cases h
  case isTrue hm =>
  split at h
  case isTrue h3 =>
    obtain rfl := Option.some.inj h
    obtain ⟨n, hn⟩ : ∃ n, l0.length = n := ⟨_, rfl⟩
    rw [hn] at hm h3 ⊢
    clear hr0 hc0 h
    go_enter Try.func33, Try.ntmps33
    go_wp2
    go_ret
    exact ⟨rfl, Below.refl _ _⟩
  case isFalse h3 =>
    obtain ⟨s, hs, h4⟩ := Option.bind_eq_some_iff.1 h
    obtain rfl := Option.some.inj h4
    clear h h4
    obtain ⟨n, hn⟩ : ∃ n, l0.length = n + 3 := ⟨l0.length - 3, by omega⟩
    have en : l0.length - 3 = n := by omega
    rw [en] at hs
    rw [en]
    obtain ⟨i0, hi0, _, hsz, _⟩ := info_parts info5
    obtain ⟨A', hcut1, hA1, hC1⟩ := print_drop_of (P := Try.prog) (Value.int .u8) 0 26 5 .i64 Try.underlying26 hi0 hsz A0 c0 l0 (n : Int) (by omega) (by omega) hc0
    obtain ⟨hcut2, hA2, hC2⟩ := print_take_of (P := Try.prog) (Value.int .u8) 0 26 5 .i64 Try.underlying26 hi0 hsz A0 c0 l0 (n : Int) (by omega) (by omega) hc0
    rw [Int.toNat_natCast] at hcut1 hA1 hC1 hcut2 hA2 hC2
    have hr1 := hA1 w (Kd.reads_of_C hr0)
    have hr2 := Kd.C_of_reads (d := (0 : Int)) (h1 := fun _ => rfl) (hA2 w (Kd.reads_of_C hr0))
    obtain ⟨t, ht⟩ : ∃ t, l0.drop n = t := ⟨_, rfl⟩
    obtain ⟨q, hq⟩ : ∃ q, l0.take n = q := ⟨_, rfl⟩
    have lt : t.length = 3 := by rw [← ht, List.length_drop]; omega
    have lq : q.length = n := by rw [← hq, List.length_take]; omega
    rw [ht] at hcut1 hr1
    rw [hq] at hcut2 hr2 hs
    rw [ht]
    rw [lt, hn] at hcut1
    rw [lq, hn] at hcut2
    rw [lt] at hr1
    rw [hn] at hm ⊢
    obtain ⟨ad, rfl, hcell⟩ := hr1.2.2 (by omega)
    have HQ := Aside0.mk hr2
    have HS := Aside0.mk hs
    have HC := Aside0.mk (show q.length ≤ c0 by omega)
    have HT := Aside0.mk (fun k (hk : k < 3) => crc_gath_succ t k (by omega))
    have HF := Aside0.mk (show t.take 3 = t from List.take_of_length_le (by omega))
    have HLQ := Aside0.mk lq
    clear hr0 hc0 hi0 hsz hA1 hA2 hC1 hC2 hr1 hr2 hs ht hq lt lq hn en h3
    have hG := fun W hC' => crc_Whole.calls A0 c0 q s W hC' HC.out HS.out
    rw [HLQ.out] at hG
    have HW := Aside0.mk hG
    have HQ2 : Aside0 (Kd.C (Kd.int .u8) w A0 n q) := ⟨by have := HQ.out; rwa [HLQ.out] at this⟩
    clear hG HQ
    go_enter Try.func33, Try.ntmps33
    go_wp2
    go_loop [4, 16] (fun v4 v16 => ∃ k : Nat, k ≤ 3 ∧ v16 = .int .i64 k ∧ v4 = .int .u32 (crc_gath (t.take k))) (fun _ i => 3 - (intOf i).toNat)
    case atStart => exact ⟨0, by omega, rfl, rfl⟩
    case round =>
      obtain ⟨k, hk, rfl, rfl⟩ := hrel
      by_cases hlt : k < 3
      · have hcx := hcell k hlt
        have e := HT.out k hlt
        obtain ⟨c, hc⟩ : ∃ c, t.getD k 0 = c := ⟨_, rfl⟩
        obtain ⟨x, hx⟩ : ∃ x, crc_gath (t.take k) = x := ⟨_, rfl⟩
        rw [hc] at hcx e
        rw [hx] at e ⊢
        have HE := Aside0.mk e
        clear hcell hc hx e
        go_wp2
        go_round
        case rel => exact ⟨k + 1, by omega, by simp, by rw [HE.out]⟩
        case measure => simp [intOf]; omega
      · obtain rfl : k = 3 := by omega
        rw [HF.out]
        obtain ⟨x, hx⟩ : ∃ x, crc_gath t = x := ⟨_, rfl⟩
        rw [hx]
        have HX := Aside0.mk hx
        clear hcell hcut1 HT HF hx
        go_wp2_with (go_at_call 40; (with_reducible refine (HW.out _ HQ2.out).mono ?_); rintro e w1 ⟨rfl, hb⟩; have HB := Aside0.mk hb; clear hb)
        go_ret
        exact ⟨by rw [HX.out]; rfl, HB.out⟩

/-! ### carillonlaw05_awake: function 34 -/
def carillonlaw05_awake.f (k : Nat)  : Option (Bool) := (crc_Fix.f k (([1, 2, 3] : List Int))).bind fun t119 => ((crc_Good.f t119).bind fun t122 => (some t122))
theorem carillonlaw05_awake.mono : ∀ k, LeO (carillonlaw05_awake.f k ) (carillonlaw05_awake.f (k + 1) ) := by
  intro  k
  unfold carillonlaw05_awake.f
  repeat' first
      | (with_reducible exact crc_Fix.mono _ _)
      | (with_reducible exact LeO.refl _)
      | (with_reducible exact LeO.none _)
      | (with_reducible refine LeO.ite ?_ ?_)
      | (with_reducible refine LeO.bind ?_ (fun _ => ?_))
      | exact crc_Fix.mono _ _
      | exact LeO.none _
      | refine LeO.ite ?_ ?_
      | refine LeO.bind ?_ (fun _ => ?_)
set_option maxHeartbeats 8000000 in
set_option maxRecDepth 100000 in
theorem carillonlaw05_awake.calls (k : Nat)  (r : Bool) (w : World) (h : carillonlaw05_awake.f k  = some r) :
    Calls Try.prog 34 #[] w fun e w' => e = .returned (.bool r) ∧ Below w.heap.size w w' := by
  have HB := Aside0.mk (Below.refl w.heap.size w)
  have H : ((crc_Fix.f k (([1, 2, 3] : List Int))).bind fun t119 => ((crc_Good.f t119).bind fun t122 => (some t122))) = some r := h
  clear h
  obtain ⟨y116, hy116⟩ : ∃ y_ : List Int, y_ = (([1, 2, 3] : List Int)) := ⟨_, rfl⟩
  replace H : ((crc_Fix.f k y116).bind fun t119 => ((crc_Good.f t119).bind fun t122 => (some t122))) = some r := by first | (rw [hy116]; with_reducible exact H) | (have H2_ := (Option.bind_some _ _).symm.trans H; rw [hy116]; with_reducible exact H2_) | (have H2_ := (Option.bind_some _ _).symm.trans H; with_reducible exact H2_) | with_reducible exact H | (rw [hy116]; exact H) | exact H
  have Ny116 := Aside0.mk hy116
  clear hy116
  replace H := Option.bind_eq_some_iff.mp H
  obtain ⟨t119, A10, H⟩ := H
  replace H : ((crc_Good.f t119).bind fun t122 => (some t122)) = some r := H
  have A1 := Aside0.mk A10
  clear A10
  replace H := Option.bind_eq_some_iff.mp H
  obtain ⟨t122, A20, H⟩ := H
  replace H : (some t122) = some r := H
  have A2 := Aside0.mk A20
  clear A20
  obtain rfl := Option.some.inj H
  go_enter Try.func34, Try.ntmps34
  go_wp2_with (first | ((with_reducible refine gate_dst (N := 1) rfl ?_); refine Kd.R_lit (Kd.int .u8) _ 5 ?hg (N := 1) ?hd (xs := ([1, 2, 3] : List Int)) (inner := [.int .u8 1, .int .u8 2, .int .u8 3]) (ok := fun _ => True) (okp := fun _ => True) ?hr ?hp (fun _ hk => hk) trivial (Below.refl _ _) (Nat.le_refl _) (by simp) ?_; (case hd => rfl); (case hg => rfl); (case hr => first | (go_simp; done) | (go_simp; rfl)); (case hp => exact (Reps.one (show Kd.M (Kd.int .u8) _ _ _ 1 [.int .u8 1] from rfl) (Reps.one (show Kd.M (Kd.int .u8) _ _ _ 2 [.int .u8 2] from rfl) (Reps.one (show Kd.M (Kd.int .u8) _ _ _ 3 [.int .u8 3] from rfl) (Reps.none _ _))))); intro v117 w3 ho4 hb hg_ hnew_; clear hg_ hnew_; (first | rw [← Ny116.out] at ho4 | (simp only [Int.reduceToNat] at ho4; rw [← Ny116.out] at ho4)); have n0_ := Aside0.mk (Kd.R_lower ho4 (below_size (by repeat (first | (with_reducible first | exact HB.out | apply below_alloc | apply pw_below_drewN | apply below_drew1) | exact HB.out)))); have n1_ := Aside0.mk (below_step (by repeat (first | (with_reducible first | exact HB.out | apply below_alloc | apply pw_below_drewN | apply below_drew1) | exact HB.out)) hb); clear HB; have HO118 := n0_; have HB := n1_; clear n0_ n1_; clear hb ho4; obtain ⟨Ao5, co5, eo5⟩ := Kd.R_slice HO118.out; subst eo5) | ((with_reducible refine gate_callee (f := 32) rfl ?_); refine goesL_ (some 2) rfl rfl Try.func32 (by kernel_rfl) rfl #[.slice Ao5 y116.length co5] rfl (by (try simp only [List.map_toArray, List.map_cons, List.map_nil]); first | done | rfl | (simp only [List.length_drop, List.length_take]; rfl)) ?_; (with_reducible refine (crc_Fix.calls k _ _ y116 t119 _ ?side1 ?side2 A1.out).mono ?_); (case side1 => repeat (first | exact (Kd.R_reads' HO118.out).2.2 | (with_reducible refine Kd.C_alloc ?_ _) | (with_reducible refine Kd.C_drewN ?_ _) | (with_reducible refine Kd.C_drew ?_))); (case side2 => exact (Kd.R_reads' HO118.out).2.1); rintro e w6 ⟨v120, rfl, ho0, hb⟩; refine ⟨_, rfl, ?_⟩; have n0_ := Aside0.mk (Kd.R_elder' (by (with_reducible repeat (first | apply Kd.R_alloc | apply Kd.R_drewN | apply Kd.R_drew)); exact HO118.out) (Kd.R_base ho0) hb); have n1_ := Aside0.mk (Kd.R_lower (Kd.R_new' ho0 (Kd.R_lt (by (with_reducible repeat (first | apply Kd.R_alloc | apply Kd.R_drewN | apply Kd.R_drew)); exact HO118.out))) (below_size (by repeat (first | (with_reducible first | exact HB.out | apply below_alloc | apply pw_below_drewN | apply below_drew1) | exact HB.out)))); have n2_ := Aside0.mk (below_step (by repeat (first | (with_reducible first | exact HB.out | apply below_alloc | apply pw_below_drewN | apply below_drew1) | exact HB.out)) hb); clear HO118; clear HB; have HO118 := n0_; have HO121 := n1_; have HB := n2_; clear n0_ n1_ n2_; (try clear hb); (try clear hb2); (try clear hk); (try clear hi); (try clear ho0); obtain ⟨Ao7, co7, eo7⟩ := Kd.R_slice HO121.out; subst eo7) | ((with_reducible refine gate_callee (f := 33) rfl ?_); refine goesL_ (some 3) rfl rfl Try.func33 (by kernel_rfl) rfl #[.slice Ao7 t119.length co7] rfl (by (try simp only [List.map_toArray, List.map_cons, List.map_nil]); first | done | rfl | (simp only [List.length_drop, List.length_take]; rfl)) ?_; (with_reducible refine (crc_Good.calls _ _ t119 t122 _ ?side1 ?side2 A2.out).mono ?_); (case side1 => repeat (first | exact (Kd.R_reads' HO121.out).2.2 | (with_reducible refine Kd.C_alloc ?_ _) | (with_reducible refine Kd.C_drewN ?_ _) | (with_reducible refine Kd.C_drew ?_))); (case side2 => exact (Kd.R_reads' HO121.out).2.1); rintro e w8 ⟨rfl, hb⟩; refine ⟨_, rfl, ?_⟩; have n0_ := Aside0.mk (Kd.R_below (by (with_reducible repeat (first | apply Kd.R_alloc | apply Kd.R_drewN | apply Kd.R_drew)); exact HO118.out) hb); have n1_ := Aside0.mk (Kd.R_below (by (with_reducible repeat (first | apply Kd.R_alloc | apply Kd.R_drewN | apply Kd.R_drew)); exact HO121.out) hb); have n2_ := Aside0.mk (below_step (by repeat (first | (with_reducible first | exact HB.out | apply below_alloc | apply pw_below_drewN | apply below_drew1) | exact HB.out)) hb); clear HO118; clear HO121; clear HB; have HO118 := n0_; have HO121 := n1_; have HB := n2_; clear n0_ n1_ n2_; (try clear hb); (try clear hb2); (try clear hk); (try clear hi)))
  go_ret
  exact ⟨by first | rfl | (simp [errW_none, errW_some] <;> rfl) | (simp [*, errW_none, errW_some] <;> rfl), by repeat (first | (with_reducible first | exact HB.out | apply below_alloc | apply pw_below_drewN | apply below_drew1) | exact HB.out)⟩

/-! ### carillonlaw05_CrcGood: function 10 -/
def carillonlaw05_CrcGood.f : Option Bool := some true
/-- THE WALK ITSELF, by hand. -/
def carillonlaw05_CrcGood.Pure : Prop := ∀ (A0 : Option Addr) (c0 : Nat) (l0 : List Int) (w : World) (hr0 : Kd.C (Kd.int .u8) w A0 l0.length l0) (hc0 : l0.length ≤ c0) (hm0 : l0.length ≤ maxLen) (y0 : l0.length * 1 ≤ 140737488351232) (hw0 : ∀ x ∈ l0, (Lit.int .u8 x).wf = true), Calls Try.prog 10 #[.slice A0 l0.length c0] w fun e w' => e = .returned (.bool true) ∧ Below w.heap.size w w'
theorem carillonlaw05_CrcGood.walk (P : carillonlaw05_CrcGood.Pure) (a0 : Option Addr) (len0 cap0 : Nat) (z0 : List Int) (w : World) (w0 : (a0 = none ∧ len0 = 0 ∧ cap0 = 0 ∧ z0 = []) ∨ ∃ x, a0 = some x ∧ len0 ≤ cap0 ∧ cap0 ≤ maxLen ∧ z0.length = cap0 ∧ (∀ i, i < z0.length → w.cell? (x.add i) = some (.int .u8 (z0.getD i 0))) ∧ ∀ n ∈ z0, (Lit.int .u8 n).wf = true) (y0 : len0 * 1 ≤ 140737488351232) :
    Calls Try.prog 10 #[.slice a0 len0 cap0] w fun e w' => e = .returned (.bool true) ∧ Below w.heap.size w w' := by
  obtain ⟨l0, rfl, hr0, hm0, hw0, hc0⟩ := ReadsInt.ofRowC w0
  exact P _ _ l0 w (Kd.C_of_reads (d := (0 : Int)) (h1 := fun _ => rfl) hr0) hc0 hm0 y0 hw0

end Go.Proofs.Ytedgfhnjmlefnaa.PCrc
