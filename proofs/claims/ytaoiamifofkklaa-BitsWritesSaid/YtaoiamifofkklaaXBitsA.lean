/- Contracts of Go functions that the claims of this seat share. -/
import Derived.Test.YtaoiamifofkklaaProg
import Derived.Below
import Derived.Deep.Draws
import Derived.Deep.AppendLies
import Derived.Maps.AppendAt
import Derived.OwnWalk
import Derived.Laws.BytesArg
import Derived.Laws.MakeOwn
import Derived.Laws.OwnMore
import Derived.Deep.OwnRows
import Derived.Tactics
import Derived.Lib.ConvBytes
import Derived.Laws.Slices
import Derived.WalkKit
import Derived.KernelRfl
import Derived.RowKit3
import Derived.Deep.LoopGhost
import Derived.Deep.QuietTactic
import Derived.BigQuiet
import Derived.WideLaws
import Derived.Deep.DeepCutAuto
import Derived.Deep.CutBlock
import Derived.Deep.RegionHeld3
import Derived.Laws.Rows
import Derived.Lib.AppendStr
import Derived.ArgAppend
import Derived.Laws.IdiomCopy
import Derived.OrdersHeld
import Derived.Laws.BitsLemmas
import Derived.RowKit
import Derived.Test.YtaoiamifofkklaaWWords
import Derived.Test.YtaoiamifofkklaaWLast
import Derived.Test.YtaoiamifofkklaaWTab
import Derived.Test.YtaoiamifofkklaaWFour
import Derived.Test.YtaoiamifofkklaaWQPut
import Derived.Test.YtaoiamifofkklaaWApart
import Derived.Test.YtaoiamifofkklaaWArr
import Derived.Test.YtaoiamifofkklaaWZeros
import Derived.Test.YtaoiamifofkklaaWFoot
import Derived.Test.YtaoiamifofkklaaWKept
import Derived.Test.YtaoiamifofkklaaWShare
import Derived.Test.YtaoiamifofkklaaWN
import Derived.Test.YtaoiamifofkklaaWFootNe
import Derived.Test.YtaoiamifofkklaaWAt
import Derived.Test.YtaoiamifofkklaaWEqStruct
import Derived.Test.YtaoiamifofkklaaWRepsOne
import Derived.Test.YtaoiamifofkklaaWInv
import Derived.Test.YtaoiamifofkklaaWInvWords
import Derived.Test.YtaoiamifofkklaaWGuard
import Derived.Test.YtaoiamifofkklaaWNEv
import Derived.Test.YtaoiamifofkklaaWMore
import Derived.Test.YtaoiamifofkklaaX0Mem
import Derived.Test.YtaoiamifofkklaaX1Pure
import Derived.Test.YtaoiamifofkklaaXObjA
import Derived.StillTailTactics
namespace Go.Proofs.Ytaoiamifofkklaa.Obj
open Go.RowKit Go.Proofs.YtaoiamifofkklaaW.PrintWords Go.Proofs.YtaoiamifofkklaaW.PrintLast Go.Proofs.YtaoiamifofkklaaW.PrintMore
set_option linter.unusedVariables false
set_option linter.unusedSimpArgs false
theorem bt_info : (Try.prog.info? 5).map (fun i => (i.zero, i.size, i.bytes)) = some (some (.int .u8 0), 1, 1) := by kernel_rfl
/-- one bit behind n bits in bytes -/
def push1 (bs : List Int) (n : Nat) (x : Int) : List Int := bs.set (n / 8) (Go.bits .or .u8 (bs.getD (n / 8) 0) (x * 2 ^ (7 - n % 8) % 256))
def pushB (bs : List Int) (n : Nat) (x : Int) : List Int := push1 (if n % 8 = 0 then bs ++ [0] else bs) n x
def Wr (w : World) (base B : Nat) (v : Value) (bs : List Int) (n : Nat) : Prop :=
  base ≤ B ∧ w.heap[B]? = some (.cells #[v, .int .i64 n, .bool true] 105 (0, 0)) ∧ Kd.R (Kd.int .u8) 5 w base (fun _ => True) v bs
theorem Wr.ne {w : World} {base B : Nat} {v : Value} {bs : List Int} {n : Nat} (h : Wr w base B v bs n) : some B ≠ v.ownBlock := by
  obtain ⟨inner, ho⟩ := Kd.R_own h.2.2
  exact own_ne ho h.2.1 (by decide)
set_option maxHeartbeats 1000000 in
theorem bt_none (B : Nat) (w : World) (h : w.cell? ⟨B, 2, none⟩ = some (.bool true)) : Calls Try.prog 67 #[.pointer (some ⟨B, 0, none⟩)] w fun e w' => e = .returned (.bool false) ∧ w' = w := by
  have hu := Try.underlying103
  go_enter Try.func67, Try.ntmps67
  go_wp2
  go_ret
  exact ⟨rfl, rfl⟩
set_option maxHeartbeats 1000000 in
theorem bt_room (B : Nat) (k n : Int) (w : World) (h : w.cell? ⟨B, 1, none⟩ = some (.int .i64 n)) (hn : 0 ≤ n ∧ n ≤ 8192) : Calls Try.prog 68 #[.pointer (some ⟨B, 0, none⟩), .int .i64 k] w fun e w' => e = .returned (.bool (decide (k ≤ 8192 - n))) ∧ w' = w := by
  have hu := Try.underlying103
  go_enter Try.func68, Try.ntmps68
  go_wp2
  go_ret
  exact ⟨rfl, rfl⟩
theorem Wr.put {w : World} {base B g len cap : Nat} {bs : List Int} {n : Nat} (h : Wr w base B (.slice (some ⟨g, 0, none⟩) len cap) bs n) (i : Nat) (x : Int) : Wr (w.setCell ⟨g, i, none⟩ (.int .u8 x)) base B (.slice (some ⟨g, 0, none⟩) len cap) (bs.set i x) n := by
  have hne := h.ne
  have hp := Kd.R_putn h.2.2 (i : Int) x
  rw [Int.toNat_natCast] at hp
  exact ⟨h.1, blk_far h.2.1 (p := ⟨g, i, none⟩) (fun e => hne (by rw [e]; rfl)) _, hp⟩
theorem bt_set {w : World} {base B : Nat} {v : Value} {bs : List Int} (hR : Kd.R (Kd.int .u8) 5 w base (fun _ => True) v bs) (hne : some B ≠ v.ownBlock) (j : Nat) (u : Value) : Kd.R (Kd.int .u8) 5 (w.setCell ⟨B, j, none⟩ u) base (fun _ => True) v bs :=
  Kd.R_mono (Kd.R_far (Kd.R_far1 hR rfl hne) (fun k hk => hk.2) u) (fun _ _ => trivial)
theorem Wr.len {w : World} {base B : Nat} {v : Value} {bs : List Int} {n : Nat} (h : Wr w base B v bs n) (m : Nat) : Wr (w.setCell ⟨B, 1, none⟩ (.int .i64 m)) base B v bs m :=
  ⟨h.1, by have q := h.2.1; simp [World.setCell, Array.getElem?_modify, q], bt_set h.2.2 h.ne _ _⟩
theorem Wr.drew {w : World} {base B : Nat} {v : Value} {bs : List Int} {n : Nat} (h : Wr w base B v bs n) : Wr w.drew base B v bs n := ⟨h.1, h.2.1, Kd.R_drew h.2.2⟩
theorem far_cell {w : World} {B g : Nat} (hne : B ≠ g) (j i : Nat) (v : Value) : (w.setCell ⟨g, i, none⟩ v).cell? ⟨B, j, none⟩ = w.cell? ⟨B, j, none⟩ := World.cell?_of_block (w := w) (Below.heap_setCell w _ _ B hne)
set_option maxHeartbeats 4000000 in
set_option maxRecDepth 100000 in
theorem bt_push1 (B base g len cap n : Nat) (bs : List Int) (x : Int) (w : World) (h : Wr w base B (.slice (some ⟨g, 0, none⟩) len cap) bs n) (h8 : n % 8 ≠ 0) (hx : 0 ≤ x ∧ x < 256) (hl : bs.length = (n + 7) / 8) (hn : n ≤ 100000) :
    Calls Try.prog 69 #[.pointer (some ⟨B, 0, none⟩), .int .u64 x] w fun e w' => (∃ v, e = .returned v) ∧ Wr w' base B (.slice (some ⟨g, 0, none⟩) len cap) (push1 bs n x) (n + 1) ∧ Kept w w' (fun k => k = B ∨ k = g) ∧ Below base w w' := by
  have HW := Aside0.mk h
  have hne : B ≠ g := fun e => h.ne (by rw [e]; rfl)
  have hgb : base ≤ g := by
    obtain ⟨inner, ho⟩ := Kd.R_own h.2.2
    exact own_base ho g (by simp [Value.ownBlock])
  obtain ⟨hb, hh, hr⟩ := h
  have hu := Try.underlying105
  have hu2 := Try.underlying103
  have g0 := (blk_cell hh 0).trans rfl
  have g1 := (blk_cell hh 1).trans rfl
  have f1 := blk_frozen hh 1
  obtain ⟨hlen, _⟩ := Kd.R_reads' hr
  have hlt : n / 8 < len := by omega
  obtain ⟨hc, hf⟩ := Kd.R_celln (0 : Int) hr ((n / 8 : Nat) : Int) (by omega) (by omega)
  rw [Int.toNat_natCast] at hc hf
  have hy : rdOf 0 bs ((n / 8 : Nat) : Int) = bs.getD (n / 8) 0 := by
    show bs.getD ((n / 8 : Nat) : Int).toNat 0 = _
    rw [Int.toNat_natCast]
  obtain ⟨y, hy2⟩ : ∃ y, bs.getD (n / 8) 0 = y := ⟨_, rfl⟩
  rw [hy, hy2] at hc
  have hp1 : push1 bs n x = bs.set (n / 8) (Go.bits .or .u8 y (x * 2 ^ (7 - n % 8) % 256)) := by unfold push1; rw [hy2]
  rw [hp1]
  have hm8 : ((n : Int) % 8 == 0) = false := by rw [beq_eq_false_iff_ne]; omega
  have HNE := Aside0.mk hne
  have HGB := Aside0.mk hgb
  have HB := Aside0.mk hb
  have k1 : ∀ v, (w.setCell ⟨g, n / 8, none⟩ v).cell? ⟨B, 1, none⟩ = some (.int .i64 n) := fun v => (far_cell hne _ _ _).trans g1
  have t8 : ((n : Int) / 8).toNat = n / 8 := by omega
  have m8 : (7 - (n : Int) % 8).toNat = 7 - n % 8 := by omega
  have b8 : (n : Int) / 8 < (len : Int) := by omega
  clear hh hr hb hne hl hlen h8 hp1 hy hy2 hgb
  go_enter Try.func69, Try.ntmps69
  go_wp2_with fail
  go_region
  go_wp2
  go_end0
  have hq := (HW.out.put (n / 8) (Go.bits .or .u8 y (x * 2 ^ (7 - n % 8) % 256))).len (n + 1)
  rw [Int.natCast_add] at hq
  refine ⟨⟨_, rfl⟩, hq.drew, ?_, ?_⟩
  · exact ((((Kept.refl _ _).setCell (p := ⟨g, n / 8, none⟩) (.inl (.inr rfl)) _).setCell (p := ⟨B, 1, none⟩) (.inl (.inl rfl)) _)).drew
  · exact (((Below.refl _ _).setCell (p := ⟨g, n / 8, none⟩) HGB.out _).setCell (p := ⟨B, 1, none⟩) HB.out _).drew
set_option maxHeartbeats 4000000 in
set_option maxRecDepth 100000 in
theorem bt_push0 (B base n : Nat) (v : Value) (bs : List Int) (x : Int) (w : World) (h : Wr w base B v bs n) (h8 : n % 8 = 0) (hx : 0 ≤ x ∧ x < 256) (hl : bs.length = (n + 7) / 8) (hn : n ≤ 100000) :
    Calls Try.prog 69 #[.pointer (some ⟨B, 0, none⟩), .int .u64 x] w fun e w' => ∃ v', (∃ v, e = .returned v) ∧ Wr w' base B v' (push1 (bs ++ [0]) n x) (n + 1) ∧ Kept w w' (fun k => k = B ∨ some k = v.ownBlock) ∧ (v'.ownBlock = v.ownBlock ∨ ∃ b, v'.ownBlock = some b ∧ w.heap.size ≤ b) ∧ Below base w w' := by
  have hne := h.ne
  obtain ⟨A0, cap, rfl, hlc, hC⟩ := Kd.R_reads h.2.2
  obtain ⟨hb, hh, hr⟩ := h
  have hu := Try.underlying105
  have hu2 := Try.underlying103
  have g0 := (blk_cell hh 0).trans rfl
  have g1 := (blk_cell hh 1).trans rfl
  obtain ⟨len, hlen⟩ : ∃ len, bs.length = len := ⟨_, rfl⟩
  rw [hlen] at hC g0 hl hlc hne hh
  have hr' : Kd.R (Kd.int .u8) 5 w base (fun _ => True) (.slice A0 len cap) bs := by rw [← hlen]; exact hr
  have hln : n / 8 = len := by omega
  have hm8 : ((n : Int) % 8 == 0) = true := by rw [beq_iff_eq]; omega
  have hbs : base ≤ w.heap.size := Nat.le_trans hb (Nat.le_of_lt (blk_lt hh))
  have HH := Aside0.mk hh
  have HR := Aside0.mk hr'
  have HB := Aside0.mk hb
  have HNE := Aside0.mk hne
  have HLEN := Aside0.mk hlen
  have HLN := Aside0.mk hln
  have hl1 : (bs ++ [0]).length = len + 1 := by rw [List.length_append, hlen]; rfl
  have HL1 := Aside0.mk hl1
  have HBS := Aside0.mk hbs
  clear hh hr hr' hb hne hl hlen h8 hC hbs hl1 hln
  go_enter Try.func69, Try.ntmps69
  go_wp2_with ((with_reducible refine gate_dst (N := 16) rfl ?_); (refine x_append .u8 base rfl (.tmp 14) (.tmp 15) 36 5 1 rfl Try.underlying36 bt_info (by decide) (.slice A0 len cap) bs [0] (some ⟨w.heap.size, 0, none⟩) 1 1 rfl rfl (Kd.R_below HR.out (below_alloc (Below.refl w.heap.size w) _)) (x_lit_C .u8 w 5 [0] (by simp)) ((Below.refl base w).alloc HBS.out _) (by simp; have := HBS.out; omega) (by have := HLN.out; rw [HLEN.out]; omega) ?_); intro v1 w2 ho1 hb1 hg1 hn1; obtain ⟨g, c1, rfl, _⟩ := Kd.R_form ho1 (by simp); have HO := Aside0.mk ho1; have HB1 := Aside0.mk hb1; have hB' := blk_grown (blk_alloc HH.out _) hg1 HNE.out; have c0' := (blk_cell hB' 0).trans rfl; have c1' := (blk_cell hB' 1).trans rfl; have f0' := blk_frozen hB' 0; have f1' := blk_frozen hB' 1; have HB' := Aside0.mk hB'; have HG1 := Aside0.mk hg1; have HN1 := Aside0.mk hn1; clear ho1 hb1 hg1 hn1 hB' g0 g1)
  have hO2 : Kd.R (Kd.int .u8) 5 w2 base (fun _ => True) (.slice (some ⟨g, 0, none⟩) (bs.length + 1) c1) (bs ++ [0]) := by have q := HO.out; rwa [List.length_append] at q
  have hne1 : some B ≠ (Value.slice (some ⟨g, 0, none⟩) (bs.length + 1) c1).ownBlock := by
    obtain ⟨inner, ho⟩ := Kd.R_own hO2
    exact own_ne ho HB'.out (by decide)
  have hW3 : Wr (w2.setCell ⟨B, 0, none⟩ (.slice (some ⟨g, 0, none⟩) (bs.length + 1) c1)) base B (.slice (some ⟨g, 0, none⟩) (bs.length + 1) c1) (bs ++ [0]) n := ⟨HB.out, by have q := HB'.out; simp [World.setCell, Array.getElem?_modify, q], bt_set hO2 hne1 _ _⟩
  have hK3 : Kept w (w2.setCell ⟨B, 0, none⟩ (.slice (some ⟨g, 0, none⟩) (bs.length + 1) c1)) (fun k => k = B ∨ some k = (Value.slice A0 len cap).ownBlock) := ((Kept.of_grown HG1.out ((Kept.refl _ _).alloc _) (fun k hk => .inl (.inr hk.symm))).setCell (p := ⟨B, 0, none⟩) (.inl (.inl rfl)) _)
  have hB3 : Below base w (w2.setCell ⟨B, 0, none⟩ (.slice (some ⟨g, 0, none⟩) (bs.length + 1) c1)) := HB1.out.setCell (p := ⟨B, 0, none⟩) HB.out _
  have hN1 : (Value.slice (some ⟨g, 0, none⟩) (bs.length + 1) c1).ownBlock = (Value.slice A0 len cap).ownBlock ∨ ∃ b, (Value.slice (some ⟨g, 0, none⟩) (bs.length + 1) c1).ownBlock = some b ∧ w.heap.size ≤ b := by
    rcases HN1.out with h | ⟨b, h1, h2⟩
    · exact .inl h
    · refine .inr ⟨b, h1, ?_⟩
      simp at h2; omega
  clear hne1 c0' c1' f0' f1'
  generalize (w2.setCell ⟨B, 0, none⟩ (.slice (some ⟨g, 0, none⟩) (bs.length + 1) c1)) = w3 at hW3 hK3 hB3 ⊢
  clear HO hO2 HB1 HB' HG1 HN1
  have HW := Aside0.mk hW3
  have HK3 := Aside0.mk hK3
  have HB3 := Aside0.mk hB3
  have HN1 := Aside0.mk hN1
  have hne : B ≠ g := fun e => hW3.ne (by rw [e]; rfl)
  have hgb : base ≤ g := by
    obtain ⟨inner, ho⟩ := Kd.R_own hW3.2.2
    exact own_base ho g (by simp [Value.ownBlock])
  have hgk : (g = B ∨ some g = (Value.slice A0 len cap).ownBlock) ∨ w.heap.size ≤ g := by
    rcases hN1 with h | ⟨b, h1, h2⟩
    · exact .inl (.inr (by rw [← h]; rfl))
    · right
      have : b = g := by simpa [Value.ownBlock] using h1.symm
      omega
  have HGK := Aside0.mk hgk
  obtain ⟨_, hh, hr⟩ := hW3
  have g0 := (blk_cell hh 0).trans rfl
  have g1 := (blk_cell hh 1).trans rfl
  have f1 := blk_frozen hh 1
  obtain ⟨hc, hf⟩ := Kd.R_celln (0 : Int) hr ((n / 8 : Nat) : Int) (by omega) (by have := HLN.out; have := HLEN.out; omega)
  rw [Int.toNat_natCast] at hc hf
  have hy : rdOf 0 (bs ++ [0]) ((n / 8 : Nat) : Int) = (bs ++ [0]).getD (n / 8) 0 := by
    show (bs ++ [0]).getD ((n / 8 : Nat) : Int).toNat 0 = _
    rw [Int.toNat_natCast]
  obtain ⟨y, hy2⟩ : ∃ y, (bs ++ [0]).getD (n / 8) 0 = y := ⟨_, rfl⟩
  rw [hy, hy2] at hc
  have hp1 : push1 (bs ++ [0]) n x = (bs ++ [0]).set (n / 8) (Go.bits .or .u8 y (x * 2 ^ (7 - n % 8) % 256)) := by unfold push1; rw [hy2]
  have HP1 := Aside0.mk hp1
  have HGB := Aside0.mk hgb
  have k1 : ∀ v, (w3.setCell ⟨g, n / 8, none⟩ v).cell? ⟨B, 1, none⟩ = some (.int .i64 n) := fun v => (far_cell hne _ _ _).trans g1
  have t8 : ((n : Int) / 8).toNat = n / 8 := by omega
  have m8 : (7 - (n : Int) % 8).toNat = 7 - n % 8 := by omega
  have b8 : (n : Int) / 8 < ((bs.length + 1 : Nat) : Int) := by have := HLN.out; have := HLEN.out; omega
  have b9 : (n : Int) / 8 < (bs.length : Int) + 1 := by have := HLN.out; have := HLEN.out; omega
  clear hh hr hne hp1 hy hy2 hgb hgk hN1 hB3 hK3
  go_region
  go_wp2
  go_end0
  have hq := (HW.out.put (n / 8) (Go.bits .or .u8 y (x * 2 ^ (7 - n % 8) % 256))).len (n + 1)
  rw [Int.natCast_add] at hq
  rw [HLEN.out]
  refine ⟨.slice (some ⟨g, 0, none⟩) (bs.length + 1) c1, ⟨_, rfl⟩, (by rw [HP1.out]; exact hq.drew), ?_, HN1.out, ?_⟩
  · exact (((HK3.out.setCell (p := ⟨g, n / 8, none⟩) HGK.out _).setCell (p := ⟨B, 1, none⟩) (.inl (.inl rfl)) _)).drew
  · exact ((HB3.out.setCell (p := ⟨g, n / 8, none⟩) HGB.out _).setCell (p := ⟨B, 1, none⟩) HB.out _).drew
end Go.Proofs.Ytaoiamifofkklaa.Obj
