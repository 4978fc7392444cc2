/- Written by a program of this session (wip/tools/hprint.py), over the kit's print, with hand-written contracts. -/
import Derived.Test.YtaoiamifofkklaaPViewAx0
import Derived.Test.YtaoiamifofkklaaPViewAx1
import Derived.Test.YtaoiamifofkklaaPViewAx2
import Derived.Test.YtaoiamifofkklaaPViewAx3
import Derived.Test.YtaoiamifofkklaaPViewAx4
namespace Go.Proofs.Ytaoiamifofkklaa.PViewA
open Go.RowKit Go.Proofs.YtaoiamifofkklaaW.PrintWords Go.Proofs.YtaoiamifofkklaaW.PrintLast Go.Proofs.YtaoiamifofkklaaW.PrintMore
attribute [local go_sem] max2_int min2_int max_two min_two max_three min_three max_four min_four Go.IntKind.wrap_u8   -- for this text's walks alone
set_option linter.unusedVariables false
set_option linter.unusedSimpArgs false

/-! ### carillonlaw26_ViewAll: function 13 -/
def carillonlaw26_ViewAll.j0 : Nat → Int → Int → Int → Bool → Option (Bool)
  | 0, _, _, _, _ => none
  | k + 1, x1, x2, x3, x110 => if x110 = true then (some false) else ((view_Has.f x1 x3).bind fun t254 => ((carillonref26_Has.f x1 x3).bind fun t255 => (if (t254 == t255) = true then ((view_List.f k x1).bind fun t256 => ((carillonref26_List.f k x1).bind fun t259 => ((carillonlaw26_numbers.f k t256 t259).bind fun t262 => (if t262 = true then ((view_Count.f x1).bind fun t263 => ((carillonref26_Count.f k x1).bind fun t264 => (if t263 = t264 then ((view_Within.f x1 x2).bind fun t265 => ((carillonref26_Within.f x1 x2).bind fun t266 => (if (t265 == t266) = true then ((carillonlaw26_awake.f).bind fun t267 => (some t267)) else (some false)))) else (some false)))) else (some false))))) else (some false))))
def carillonlaw26_ViewAll.f (k : Nat) (l0 : List Int) (a1 : Int) (a2 : Int) (a3 : Int) (a4 : Int) : Option (Bool) := (view_Of.f k l0).bind fun bt238 => ((carillonref26_Of.f k l0).bind fun bt240 => ((view_With.f k a1 a3).bind fun bt242 => ((carillonref26_With.f a1 a3).bind fun bt244 => ((view_Without.f k a1 a3).bind fun bt246 => ((carillonref26_Without.f k a1 a3).bind fun bt248 => ((view_Digest.f k a1 a4).bind fun bt250 => ((carillonref26_Digest.f k a1 a4).bind fun bt252 => (if bt238.1 = bt240.1 then (if bt238.2 = bt240.2 then (if bt242.1 = bt244.1 then (if bt242.2 = bt244.2 then (if bt246.1 = bt248.1 then (if bt246.2 = bt248.2 then (if bt250.1 = bt252.1 then (carillonlaw26_ViewAll.j0 k a1 a2 a3 (bt250.2 != bt252.2)) else (carillonlaw26_ViewAll.j0 k a1 a2 a3 true)) else (carillonlaw26_ViewAll.j0 k a1 a2 a3 true)) else (carillonlaw26_ViewAll.j0 k a1 a2 a3 true)) else (carillonlaw26_ViewAll.j0 k a1 a2 a3 true)) else (carillonlaw26_ViewAll.j0 k a1 a2 a3 true)) else (carillonlaw26_ViewAll.j0 k a1 a2 a3 true)) else (carillonlaw26_ViewAll.j0 k a1 a2 a3 true)))))))))
theorem carillonlaw26_ViewAll.mono_l : ∀ k, (∀ y0 y1 y2 y3, LeO (carillonlaw26_ViewAll.j0 k y0 y1 y2 y3) (carillonlaw26_ViewAll.j0 (k + 1) y0 y1 y2 y3))
  | 0 => fun _ _ _ _ r h => by simp [carillonlaw26_ViewAll.j0] at h
  | k + 1 => by
    have ih0 := carillonlaw26_ViewAll.mono_l k
    · intro y0 y1 y2 y3
      unfold carillonlaw26_ViewAll.j0
      repeat' first
      | (with_reducible exact ih0 _ _ _ _)
      | (with_reducible exact carillonlaw26_numbers.mono _ _ _)
      | (with_reducible exact carillonref26_Count.mono _ _)
      | (with_reducible exact carillonref26_Digest.mono _ _ _)
      | (with_reducible exact carillonref26_List.mono _ _)
      | (with_reducible exact carillonref26_Of.mono _ _)
      | (with_reducible exact carillonref26_Without.mono _ _ _)
      | (with_reducible exact view_Digest.mono _ _ _)
      | (with_reducible exact view_List.mono _ _)
      | (with_reducible exact view_Of.mono _ _)
      | (with_reducible exact view_With.mono _ _ _)
      | (with_reducible exact view_Without.mono _ _ _)
      | (with_reducible exact LeO.refl _)
      | (with_reducible exact LeO.none _)
      | (with_reducible refine LeO.ite ?_ ?_)
      | (with_reducible refine LeO.bind ?_ (fun _ => ?_))
      | exact ih0 _ _ _ _
      | exact carillonlaw26_numbers.mono _ _ _
      | exact carillonref26_Count.mono _ _
      | exact carillonref26_Digest.mono _ _ _
      | exact carillonref26_List.mono _ _
      | exact carillonref26_Of.mono _ _
      | exact carillonref26_Without.mono _ _ _
      | exact view_Digest.mono _ _ _
      | exact view_List.mono _ _
      | exact view_Of.mono _ _
      | exact view_With.mono _ _ _
      | exact view_Without.mono _ _ _
      | exact LeO.none _
      | refine LeO.ite ?_ ?_
      | refine LeO.bind ?_ (fun _ => ?_)
theorem carillonlaw26_ViewAll.mono : ∀ a0 a1 a2 a3 a4 k, LeO (carillonlaw26_ViewAll.f k a0 a1 a2 a3 a4) (carillonlaw26_ViewAll.f (k + 1) a0 a1 a2 a3 a4) := by
  intro a0 a1 a2 a3 a4 k
  have ih0 := carillonlaw26_ViewAll.mono_l k
  unfold carillonlaw26_ViewAll.f
  repeat' first
      | (with_reducible exact ih0 _ _ _ _)
      | (with_reducible exact carillonlaw26_numbers.mono _ _ _)
      | (with_reducible exact carillonref26_Count.mono _ _)
      | (with_reducible exact carillonref26_Digest.mono _ _ _)
      | (with_reducible exact carillonref26_List.mono _ _)
      | (with_reducible exact carillonref26_Of.mono _ _)
      | (with_reducible exact carillonref26_Without.mono _ _ _)
      | (with_reducible exact view_Digest.mono _ _ _)
      | (with_reducible exact view_List.mono _ _)
      | (with_reducible exact view_Of.mono _ _)
      | (with_reducible exact view_With.mono _ _ _)
      | (with_reducible exact view_Without.mono _ _ _)
      | (with_reducible exact LeO.refl _)
      | (with_reducible exact LeO.none _)
      | (with_reducible refine LeO.ite ?_ ?_)
      | (with_reducible refine LeO.bind ?_ (fun _ => ?_))
      | exact ih0 _ _ _ _
      | exact carillonlaw26_numbers.mono _ _ _
      | exact carillonref26_Count.mono _ _
      | exact carillonref26_Digest.mono _ _ _
      | exact carillonref26_List.mono _ _
      | exact carillonref26_Of.mono _ _
      | exact carillonref26_Without.mono _ _ _
      | exact view_Digest.mono _ _ _
      | exact view_List.mono _ _
      | exact view_Of.mono _ _
      | exact view_With.mono _ _ _
      | exact view_Without.mono _ _ _
      | exact LeO.none _
      | refine LeO.ite ?_ ?_
      | refine LeO.bind ?_ (fun _ => ?_)
set_option maxHeartbeats 8000000 in
set_option maxRecDepth 100000 in
theorem carillonlaw26_ViewAll.calls (k : Nat) (A0 : Option Addr) (c0 : Nat) (l0 : List Int) (a1 : Int) (a2 : Int) (a3 : Int) (a4 : Int) (r : Bool) (w : World) (hr0 : Kd.C (Kd.int .i64) w A0 l0.length l0) (hc0 : l0.length ≤ c0) (h : carillonlaw26_ViewAll.f k l0 a1 a2 a3 a4 = some r) :
    Calls Try.prog 13 #[.slice A0 l0.length c0, .int .i64 a1, .int .i64 a2, .int .i64 a3, .int .i64 a4] w fun e w' => e = .returned (.bool r) ∧ Below w.heap.size w w' := by
  have HR0 := Aside0.mk hr0
  have HC0 := Aside0.mk hc0
  clear hr0 hc0
  have HB := Aside0.mk (Below.refl w.heap.size w)
  have H : ((view_Of.f k l0).bind fun bt238 => ((carillonref26_Of.f k l0).bind fun bt240 => ((view_With.f k a1 a3).bind fun bt242 => ((carillonref26_With.f a1 a3).bind fun bt244 => ((view_Without.f k a1 a3).bind fun bt246 => ((carillonref26_Without.f k a1 a3).bind fun bt248 => ((view_Digest.f k a1 a4).bind fun bt250 => ((carillonref26_Digest.f k a1 a4).bind fun bt252 => (if bt238.1 = bt240.1 then (if bt238.2 = bt240.2 then (if bt242.1 = bt244.1 then (if bt242.2 = bt244.2 then (if bt246.1 = bt248.1 then (if bt246.2 = bt248.2 then (if bt250.1 = bt252.1 then (carillonlaw26_ViewAll.j0 k a1 a2 a3 (bt250.2 != bt252.2)) else (carillonlaw26_ViewAll.j0 k a1 a2 a3 true)) else (carillonlaw26_ViewAll.j0 k a1 a2 a3 true)) else (carillonlaw26_ViewAll.j0 k a1 a2 a3 true)) else (carillonlaw26_ViewAll.j0 k a1 a2 a3 true)) else (carillonlaw26_ViewAll.j0 k a1 a2 a3 true)) else (carillonlaw26_ViewAll.j0 k a1 a2 a3 true)) else (carillonlaw26_ViewAll.j0 k a1 a2 a3 true)))))))))) = some r := h
  clear h
  replace H := Option.bind_eq_some_iff.mp H
  obtain ⟨⟨t238, t239⟩, A60, H⟩ := H
  replace H : ((carillonref26_Of.f k l0).bind fun bt240 => ((view_With.f k a1 a3).bind fun bt242 => ((carillonref26_With.f a1 a3).bind fun bt244 => ((view_Without.f k a1 a3).bind fun bt246 => ((carillonref26_Without.f k a1 a3).bind fun bt248 => ((view_Digest.f k a1 a4).bind fun bt250 => ((carillonref26_Digest.f k a1 a4).bind fun bt252 => (if t238 = bt240.1 then (if t239 = bt240.2 then (if bt242.1 = bt244.1 then (if bt242.2 = bt244.2 then (if bt246.1 = bt248.1 then (if bt246.2 = bt248.2 then (if bt250.1 = bt252.1 then (carillonlaw26_ViewAll.j0 k a1 a2 a3 (bt250.2 != bt252.2)) else (carillonlaw26_ViewAll.j0 k a1 a2 a3 true)) else (carillonlaw26_ViewAll.j0 k a1 a2 a3 true)) else (carillonlaw26_ViewAll.j0 k a1 a2 a3 true)) else (carillonlaw26_ViewAll.j0 k a1 a2 a3 true)) else (carillonlaw26_ViewAll.j0 k a1 a2 a3 true)) else (carillonlaw26_ViewAll.j0 k a1 a2 a3 true)) else (carillonlaw26_ViewAll.j0 k a1 a2 a3 true))))))))) = some r := H
  have A6 := Aside0.mk A60
  clear A60
  replace H := Option.bind_eq_some_iff.mp H
  obtain ⟨⟨t240, t241⟩, A70, H⟩ := H
  replace H : ((view_With.f k a1 a3).bind fun bt242 => ((carillonref26_With.f a1 a3).bind fun bt244 => ((view_Without.f k a1 a3).bind fun bt246 => ((carillonref26_Without.f k a1 a3).bind fun bt248 => ((view_Digest.f k a1 a4).bind fun bt250 => ((carillonref26_Digest.f k a1 a4).bind fun bt252 => (if t238 = t240 then (if t239 = t241 then (if bt242.1 = bt244.1 then (if bt242.2 = bt244.2 then (if bt246.1 = bt248.1 then (if bt246.2 = bt248.2 then (if bt250.1 = bt252.1 then (carillonlaw26_ViewAll.j0 k a1 a2 a3 (bt250.2 != bt252.2)) else (carillonlaw26_ViewAll.j0 k a1 a2 a3 true)) else (carillonlaw26_ViewAll.j0 k a1 a2 a3 true)) else (carillonlaw26_ViewAll.j0 k a1 a2 a3 true)) else (carillonlaw26_ViewAll.j0 k a1 a2 a3 true)) else (carillonlaw26_ViewAll.j0 k a1 a2 a3 true)) else (carillonlaw26_ViewAll.j0 k a1 a2 a3 true)) else (carillonlaw26_ViewAll.j0 k a1 a2 a3 true)))))))) = some r := H
  have A7 := Aside0.mk A70
  clear A70
  replace H := Option.bind_eq_some_iff.mp H
  obtain ⟨⟨t242, t243⟩, A80, H⟩ := H
  replace H : ((carillonref26_With.f a1 a3).bind fun bt244 => ((view_Without.f k a1 a3).bind fun bt246 => ((carillonref26_Without.f k a1 a3).bind fun bt248 => ((view_Digest.f k a1 a4).bind fun bt250 => ((carillonref26_Digest.f k a1 a4).bind fun bt252 => (if t238 = t240 then (if t239 = t241 then (if t242 = bt244.1 then (if t243 = bt244.2 then (if bt246.1 = bt248.1 then (if bt246.2 = bt248.2 then (if bt250.1 = bt252.1 then (carillonlaw26_ViewAll.j0 k a1 a2 a3 (bt250.2 != bt252.2)) else (carillonlaw26_ViewAll.j0 k a1 a2 a3 true)) else (carillonlaw26_ViewAll.j0 k a1 a2 a3 true)) else (carillonlaw26_ViewAll.j0 k a1 a2 a3 true)) else (carillonlaw26_ViewAll.j0 k a1 a2 a3 true)) else (carillonlaw26_ViewAll.j0 k a1 a2 a3 true)) else (carillonlaw26_ViewAll.j0 k a1 a2 a3 true)) else (carillonlaw26_ViewAll.j0 k a1 a2 a3 true))))))) = some r := H
  have A8 := Aside0.mk A80
  clear A80
  replace H := Option.bind_eq_some_iff.mp H
  obtain ⟨⟨t244, t245⟩, A90, H⟩ := H
  replace H : ((view_Without.f k a1 a3).bind fun bt246 => ((carillonref26_Without.f k a1 a3).bind fun bt248 => ((view_Digest.f k a1 a4).bind fun bt250 => ((carillonref26_Digest.f k a1 a4).bind fun bt252 => (if t238 = t240 then (if t239 = t241 then (if t242 = t244 then (if t243 = t245 then (if bt246.1 = bt248.1 then (if bt246.2 = bt248.2 then (if bt250.1 = bt252.1 then (carillonlaw26_ViewAll.j0 k a1 a2 a3 (bt250.2 != bt252.2)) else (carillonlaw26_ViewAll.j0 k a1 a2 a3 true)) else (carillonlaw26_ViewAll.j0 k a1 a2 a3 true)) else (carillonlaw26_ViewAll.j0 k a1 a2 a3 true)) else (carillonlaw26_ViewAll.j0 k a1 a2 a3 true)) else (carillonlaw26_ViewAll.j0 k a1 a2 a3 true)) else (carillonlaw26_ViewAll.j0 k a1 a2 a3 true)) else (carillonlaw26_ViewAll.j0 k a1 a2 a3 true)))))) = some r := H
  have A9 := Aside0.mk A90
  clear A90
  replace H := Option.bind_eq_some_iff.mp H
  obtain ⟨⟨t246, t247⟩, A100, H⟩ := H
  replace H : ((carillonref26_Without.f k a1 a3).bind fun bt248 => ((view_Digest.f k a1 a4).bind fun bt250 => ((carillonref26_Digest.f k a1 a4).bind fun bt252 => (if t238 = t240 then (if t239 = t241 then (if t242 = t244 then (if t243 = t245 then (if t246 = bt248.1 then (if t247 = bt248.2 then (if bt250.1 = bt252.1 then (carillonlaw26_ViewAll.j0 k a1 a2 a3 (bt250.2 != bt252.2)) else (carillonlaw26_ViewAll.j0 k a1 a2 a3 true)) else (carillonlaw26_ViewAll.j0 k a1 a2 a3 true)) else (carillonlaw26_ViewAll.j0 k a1 a2 a3 true)) else (carillonlaw26_ViewAll.j0 k a1 a2 a3 true)) else (carillonlaw26_ViewAll.j0 k a1 a2 a3 true)) else (carillonlaw26_ViewAll.j0 k a1 a2 a3 true)) else (carillonlaw26_ViewAll.j0 k a1 a2 a3 true))))) = some r := H
  have A10 := Aside0.mk A100
  clear A100
  replace H := Option.bind_eq_some_iff.mp H
  obtain ⟨⟨t248, t249⟩, A110, H⟩ := H
  replace H : ((view_Digest.f k a1 a4).bind fun bt250 => ((carillonref26_Digest.f k a1 a4).bind fun bt252 => (if t238 = t240 then (if t239 = t241 then (if t242 = t244 then (if t243 = t245 then (if t246 = t248 then (if t247 = t249 then (if bt250.1 = bt252.1 then (carillonlaw26_ViewAll.j0 k a1 a2 a3 (bt250.2 != bt252.2)) else (carillonlaw26_ViewAll.j0 k a1 a2 a3 true)) else (carillonlaw26_ViewAll.j0 k a1 a2 a3 true)) else (carillonlaw26_ViewAll.j0 k a1 a2 a3 true)) else (carillonlaw26_ViewAll.j0 k a1 a2 a3 true)) else (carillonlaw26_ViewAll.j0 k a1 a2 a3 true)) else (carillonlaw26_ViewAll.j0 k a1 a2 a3 true)) else (carillonlaw26_ViewAll.j0 k a1 a2 a3 true)))) = some r := H
  have A11 := Aside0.mk A110
  clear A110
  replace H := Option.bind_eq_some_iff.mp H
  obtain ⟨⟨t250, t251⟩, A120, H⟩ := H
  replace H : ((carillonref26_Digest.f k a1 a4).bind fun bt252 => (if t238 = t240 then (if t239 = t241 then (if t242 = t244 then (if t243 = t245 then (if t246 = t248 then (if t247 = t249 then (if t250 = bt252.1 then (carillonlaw26_ViewAll.j0 k a1 a2 a3 (t251 != bt252.2)) else (carillonlaw26_ViewAll.j0 k a1 a2 a3 true)) else (carillonlaw26_ViewAll.j0 k a1 a2 a3 true)) else (carillonlaw26_ViewAll.j0 k a1 a2 a3 true)) else (carillonlaw26_ViewAll.j0 k a1 a2 a3 true)) else (carillonlaw26_ViewAll.j0 k a1 a2 a3 true)) else (carillonlaw26_ViewAll.j0 k a1 a2 a3 true)) else (carillonlaw26_ViewAll.j0 k a1 a2 a3 true))) = some r := H
  have A12 := Aside0.mk A120
  clear A120
  replace H := Option.bind_eq_some_iff.mp H
  obtain ⟨⟨t252, t253⟩, A130, H⟩ := H
  replace H : (if t238 = t240 then (if t239 = t241 then (if t242 = t244 then (if t243 = t245 then (if t246 = t248 then (if t247 = t249 then (if t250 = t252 then (carillonlaw26_ViewAll.j0 k a1 a2 a3 (t251 != t253)) else (carillonlaw26_ViewAll.j0 k a1 a2 a3 true)) else (carillonlaw26_ViewAll.j0 k a1 a2 a3 true)) else (carillonlaw26_ViewAll.j0 k a1 a2 a3 true)) else (carillonlaw26_ViewAll.j0 k a1 a2 a3 true)) else (carillonlaw26_ViewAll.j0 k a1 a2 a3 true)) else (carillonlaw26_ViewAll.j0 k a1 a2 a3 true)) else (carillonlaw26_ViewAll.j0 k a1 a2 a3 true)) = some r := H
  have A13 := Aside0.mk A130
  clear A130
  have HC14 := Aside0.mk H
  clear H
  go_enter Try.func13, Try.ntmps13
  go_upto_region 9 with (first | ((with_reducible refine gate_callee (f := 55) rfl ?_); refine goesL_ (some 29) rfl rfl Try.func55 (by kernel_rfl) rfl #[.slice A0 l0.length c0] rfl (by (try simp only [List.map_toArray, List.map_cons, List.map_nil]); first | done | rfl | (simp only [List.length_drop, List.length_take]; rfl)) ?_; (with_reducible refine (view_Of.calls k _ _ l0 t238 t239 _ ?side1 ?side2 A6.out).mono ?_); (case side1 => repeat (first | exact HR0.out | (with_reducible refine Kd.C_alloc ?_ _) | (with_reducible refine Kd.C_drewN ?_ _) | (with_reducible refine Kd.C_drew ?_))); (case side2 => exact HC0.out); rintro e w' ⟨rfl, ⟨nd, rfl⟩⟩; refine ⟨_, rfl, ?_⟩) | ((with_reducible refine gate_callee (f := 57) rfl ?_); refine goesL_ (some 34) rfl rfl Try.func57 (by kernel_rfl) rfl #[.slice A0 l0.length c0] rfl (by (try simp only [List.map_toArray, List.map_cons, List.map_nil]); first | done | rfl | (simp only [List.length_drop, List.length_take]; rfl)) ?_; (with_reducible refine (carillonref26_Of.calls k _ _ l0 t240 t241 _ ?side1 ?side2 A7.out).mono ?_); (case side1 => repeat (first | exact HR0.out | (with_reducible refine Kd.C_alloc ?_ _) | (with_reducible refine Kd.C_drewN ?_ _) | (with_reducible refine Kd.C_drew ?_))); (case side2 => exact HC0.out); rintro e w' ⟨rfl, ⟨nd, rfl⟩⟩; refine ⟨_, rfl, ?_⟩) | ((with_reducible refine gate_callee (f := 31) rfl ?_); refine goesL_ (some 40) rfl rfl Try.func31 (by kernel_rfl) rfl #[.int .i64 a1, .int .i64 a3] rfl (by (try simp only [List.map_toArray, List.map_cons, List.map_nil]); first | done | rfl | (simp only [List.length_drop, List.length_take]; rfl)) ?_; (with_reducible refine (view_With.calls k a1 a3 t242 t243 _ A8.out).mono ?_); rintro e w15 ⟨rfl, hb⟩; refine ⟨_, rfl, ?_⟩; have n0_ := Aside0.mk (below_step (by repeat (first | (with_reducible first | exact HB.out | apply below_alloc | apply pw_below_drewN | apply below_drew1) | exact HB.out)) hb); clear HB; have HB := n0_; clear n0_; (try clear hb); (try clear hb2); (try clear hk); (try clear hi)) | ((with_reducible refine gate_callee (f := 58) rfl ?_); refine goesL_ (some 46) rfl rfl Try.func58 (by kernel_rfl) rfl #[.int .i64 a1, .int .i64 a3] rfl (by (try simp only [List.map_toArray, List.map_cons, List.map_nil]); first | done | rfl | (simp only [List.length_drop, List.length_take]; rfl)) ?_; (with_reducible refine (carillonref26_With.calls a1 a3 t244 t245 _ A9.out).mono ?_); rintro e w' ⟨rfl, ⟨nd, rfl⟩⟩; refine ⟨_, rfl, ?_⟩) | ((with_reducible refine gate_callee (f := 32) rfl ?_); refine goesL_ (some 52) rfl rfl Try.func32 (by kernel_rfl) rfl #[.int .i64 a1, .int .i64 a3] rfl (by (try simp only [List.map_toArray, List.map_cons, List.map_nil]); first | done | rfl | (simp only [List.length_drop, List.length_take]; rfl)) ?_; (with_reducible refine (view_Without.calls k a1 a3 t246 t247 _ A10.out).mono ?_); rintro e w16 ⟨rfl, hb⟩; refine ⟨_, rfl, ?_⟩; have n0_ := Aside0.mk (below_step (by repeat (first | (with_reducible first | exact HB.out | apply below_alloc | apply pw_below_drewN | apply below_drew1) | exact HB.out)) hb); clear HB; have HB := n0_; clear n0_; (try clear hb); (try clear hb2); (try clear hk); (try clear hi)) | ((with_reducible refine gate_callee (f := 59) rfl ?_); refine goesL_ (some 58) rfl rfl Try.func59 (by kernel_rfl) rfl #[.int .i64 a1, .int .i64 a3] rfl (by (try simp only [List.map_toArray, List.map_cons, List.map_nil]); first | done | rfl | (simp only [List.length_drop, List.length_take]; rfl)) ?_; (with_reducible refine (carillonref26_Without.calls k a1 a3 t248 t249 _ A11.out).mono ?_); rintro e w' ⟨rfl, ⟨nd, rfl⟩⟩; refine ⟨_, rfl, ?_⟩) | ((with_reducible refine gate_callee (f := 60) rfl ?_); refine goesL_ (some 64) rfl rfl Try.func60 (by kernel_rfl) rfl #[.int .i64 a1, .int .i64 a4] rfl (by (try simp only [List.map_toArray, List.map_cons, List.map_nil]); first | done | rfl | (simp only [List.length_drop, List.length_take]; rfl)) ?_; (with_reducible refine (view_Digest.calls k a1 a4 t250 t251 _ A12.out).mono ?_); rintro e w17 ⟨rfl, hb⟩; refine ⟨_, rfl, ?_⟩; have n0_ := Aside0.mk (below_step (by repeat (first | (with_reducible first | exact HB.out | apply below_alloc | apply pw_below_drewN | apply below_drew1) | exact HB.out)) hb); clear HB; have HB := n0_; clear n0_; (try clear hb); (try clear hb2); (try clear hk); (try clear hi)) | ((with_reducible refine gate_callee (f := 61) rfl ?_); refine goesL_ (some 70) rfl rfl Try.func61 (by kernel_rfl) rfl #[.int .i64 a1, .int .i64 a4] rfl (by (try simp only [List.map_toArray, List.map_cons, List.map_nil]); first | done | rfl | (simp only [List.length_drop, List.length_take]; rfl)) ?_; (with_reducible refine (carillonref26_Digest.calls k a1 a4 t252 t253 _ A13.out).mono ?_); rintro e w18 ⟨rfl, hb⟩; refine ⟨_, rfl, ?_⟩; have n0_ := Aside0.mk (below_step (by repeat (first | (with_reducible first | exact HB.out | apply below_alloc | apply pw_below_drewN | apply below_drew1) | exact HB.out)) hb); clear HB; have HB := n0_; clear n0_; (try clear hb); (try clear hb2); (try clear hk); (try clear hi)))
  (try simp only [Act.put, List.setIfInBounds_toArray, List.set_cons_zero, List.set_cons_succ])
  go_cut [110] (fun v110 wc => ∃ (kq : Nat) (x110_13 : Bool), v110 = .bool x110_13 ∧ Aside0 (carillonlaw26_ViewAll.j0 kq a1 a2 a3 x110_13 = some r) ∧ Aside0 (kq ≤ k) ∧ Aside0 (Below w.heap.size w wc))
  case first =>
    have H := HC14.out
    clear HC14
    by_cases c19 : t238 = t240
    · rw [if_pos c19] at H
      have c19b0 : (t238 == t240) = true := beq_iff_eq.mpr c19
      have c19b1 : (t238 != t240) = false := bne_eq_false_iff_eq.mpr c19
      clear c19
      (first | rw [c19b0] | (simp only [i64_w, i32_w]; rw [c19b0]) | skip)
      by_cases c20 : t239 = t241
      · rw [if_pos c20] at H
        have c20b0 : (t239 == t241) = true := beq_iff_eq.mpr c20
        have c20b1 : (t239 != t241) = false := bne_eq_false_iff_eq.mpr c20
        clear c20
        by_cases c21 : t242 = t244
        · rw [if_pos c21] at H
          have c21b0 : (t242 == t244) = true := beq_iff_eq.mpr c21
          have c21b1 : (t242 != t244) = false := bne_eq_false_iff_eq.mpr c21
          clear c21
          by_cases c22 : t243 = t245
          · rw [if_pos c22] at H
            have c22b0 : (t243 == t245) = true := beq_iff_eq.mpr c22
            have c22b1 : (t243 != t245) = false := bne_eq_false_iff_eq.mpr c22
            clear c22
            by_cases c23 : t246 = t248
            · rw [if_pos c23] at H
              have c23b0 : (t246 == t248) = true := beq_iff_eq.mpr c23
              have c23b1 : (t246 != t248) = false := bne_eq_false_iff_eq.mpr c23
              clear c23
              by_cases c24 : t247 = t249
              · rw [if_pos c24] at H
                have c24b0 : (t247 == t249) = true := beq_iff_eq.mpr c24
                have c24b1 : (t247 != t249) = false := bne_eq_false_iff_eq.mpr c24
                clear c24
                by_cases c25 : t250 = t252
                · rw [if_pos c25] at H
                  have c25b0 : (t250 == t252) = true := beq_iff_eq.mpr c25
                  have c25b1 : (t250 != t252) = false := bne_eq_false_iff_eq.mpr c25
                  clear c25
                  have H' := Aside0.mk H
                  clear H
                  go_wp2
                  go_meet
                  case rel => exact ⟨_, ((t251 != t253)), (by first | rfl | (simp; done) | (simp [*]; done)), H', ⟨by first | omega | exact Nat.le_refl _⟩, ⟨by repeat (first | (with_reducible first | exact HB.out | apply below_alloc | apply pw_below_drewN | apply below_drew1) | exact HB.out)⟩⟩
                · rw [if_neg c25] at H
                  have c25b0 : (t250 == t252) = false := beq_eq_false_iff_ne.mpr c25
                  have c25b1 : (t250 != t252) = true := bne_iff_ne.mpr c25
                  have H' := Aside0.mk H
                  clear H
                  go_wp2
                  go_meet
                  case rel => exact ⟨_, (true), (by first | rfl | (simp; done) | (simp [*]; done)), H', ⟨by first | omega | exact Nat.le_refl _⟩, ⟨by repeat (first | (with_reducible first | exact HB.out | apply below_alloc | apply pw_below_drewN | apply below_drew1) | exact HB.out)⟩⟩
              · rw [if_neg c24] at H
                have c24b0 : (t247 == t249) = false := beq_eq_false_iff_ne.mpr c24
                have c24b1 : (t247 != t249) = true := bne_iff_ne.mpr c24
                have H' := Aside0.mk H
                clear H
                go_wp2
                go_meet
                case rel => exact ⟨_, (true), (by first | rfl | (simp; done) | (simp [*]; done)), H', ⟨by first | omega | exact Nat.le_refl _⟩, ⟨by repeat (first | (with_reducible first | exact HB.out | apply below_alloc | apply pw_below_drewN | apply below_drew1) | exact HB.out)⟩⟩
            · rw [if_neg c23] at H
              have c23b0 : (t246 == t248) = false := beq_eq_false_iff_ne.mpr c23
              have c23b1 : (t246 != t248) = true := bne_iff_ne.mpr c23
              have H' := Aside0.mk H
              clear H
              go_wp2
              go_meet
              case rel => exact ⟨_, (true), (by first | rfl | (simp; done) | (simp [*]; done)), H', ⟨by first | omega | exact Nat.le_refl _⟩, ⟨by repeat (first | (with_reducible first | exact HB.out | apply below_alloc | apply pw_below_drewN | apply below_drew1) | exact HB.out)⟩⟩
          · rw [if_neg c22] at H
            have c22b0 : (t243 == t245) = false := beq_eq_false_iff_ne.mpr c22
            have c22b1 : (t243 != t245) = true := bne_iff_ne.mpr c22
            have H' := Aside0.mk H
            clear H
            go_wp2
            go_meet
            case rel => exact ⟨_, (true), (by first | rfl | (simp; done) | (simp [*]; done)), H', ⟨by first | omega | exact Nat.le_refl _⟩, ⟨by repeat (first | (with_reducible first | exact HB.out | apply below_alloc | apply pw_below_drewN | apply below_drew1) | exact HB.out)⟩⟩
        · rw [if_neg c21] at H
          have c21b0 : (t242 == t244) = false := beq_eq_false_iff_ne.mpr c21
          have c21b1 : (t242 != t244) = true := bne_iff_ne.mpr c21
          have H' := Aside0.mk H
          clear H
          go_wp2
          go_meet
          case rel => exact ⟨_, (true), (by first | rfl | (simp; done) | (simp [*]; done)), H', ⟨by first | omega | exact Nat.le_refl _⟩, ⟨by repeat (first | (with_reducible first | exact HB.out | apply below_alloc | apply pw_below_drewN | apply below_drew1) | exact HB.out)⟩⟩
      · rw [if_neg c20] at H
        have c20b0 : (t239 == t241) = false := beq_eq_false_iff_ne.mpr c20
        have c20b1 : (t239 != t241) = true := bne_iff_ne.mpr c20
        have H' := Aside0.mk H
        clear H
        go_wp2
        go_meet
        case rel => exact ⟨_, (true), (by first | rfl | (simp; done) | (simp [*]; done)), H', ⟨by first | omega | exact Nat.le_refl _⟩, ⟨by repeat (first | (with_reducible first | exact HB.out | apply below_alloc | apply pw_below_drewN | apply below_drew1) | exact HB.out)⟩⟩
    · rw [if_neg c19] at H
      have c19b0 : (t238 == t240) = false := beq_eq_false_iff_ne.mpr c19
      have c19b1 : (t238 != t240) = true := bne_iff_ne.mpr c19
      (first | rw [c19b0] | (simp only [i64_w, i32_w]; rw [c19b0]) | skip)
      have H' := Aside0.mk H
      clear H
      go_wp2
      go_meet
      case rel => exact ⟨_, (true), (by first | rfl | (simp; done) | (simp [*]; done)), H', ⟨by first | omega | exact Nat.le_refl _⟩, ⟨by repeat (first | (with_reducible first | exact HB.out | apply below_alloc | apply pw_below_drewN | apply below_drew1) | exact HB.out)⟩⟩
  case rest =>
    clear HC14
    try clear c1
    try clear c2
    try clear p2
    try clear c3
    try clear c5
    try clear c6
    try clear c13
    try clear c19
    try clear c19b0
    try clear c19b1
    try clear c20
    try clear c20b0
    try clear c20b1
    try clear c21
    try clear c21b0
    try clear c21b1
    try clear c22
    try clear c22b0
    try clear c22b1
    try clear c23
    try clear c23b0
    try clear c23b1
    try clear c24
    try clear c24b0
    try clear c24b1
    try clear c25
    try clear c25b0
    try clear c25b1
    obtain ⟨kq, x110_13, rfl, HA, HJ13, HB⟩ := hcut
    cases kq with
    | zero => exact absurd HA.out (by simp [carillonlaw26_ViewAll.j0])
    | succ kj13 =>
      have H := HA.out
      clear HA
      simp only [carillonlaw26_ViewAll.j0] at H
      by_cases c26 : x110_13 = true
      · subst c26
        have H1 : (some false) = some r := by rw [if_pos rfl] at H; exact H
        clear H
        have H := H1
        clear H1
        obtain rfl := Option.some.inj H
        go_wp2
        go_ret
        exact ⟨by first | rfl | (simp [errW_none, errW_some] <;> rfl) | (simp [*, errW_none, errW_some] <;> rfl), by repeat (first | (with_reducible first | exact HB.out | apply below_alloc | apply pw_below_drewN | apply below_drew1) | exact HB.out)⟩
      · replace c26 := Bool.eq_false_iff.mpr c26
        subst c26
        have H1 : ((view_Has.f a1 a3).bind fun t254 => ((carillonref26_Has.f a1 a3).bind fun t255 => (if (t254 == t255) = true then ((view_List.f kj13 a1).bind fun t256 => ((carillonref26_List.f kj13 a1).bind fun t259 => ((carillonlaw26_numbers.f kj13 t256 t259).bind fun t262 => (if t262 = true then ((view_Count.f a1).bind fun t263 => ((carillonref26_Count.f kj13 a1).bind fun t264 => (if t263 = t264 then ((view_Within.f a1 a2).bind fun t265 => ((carillonref26_Within.f a1 a2).bind fun t266 => (if (t265 == t266) = true then ((carillonlaw26_awake.f).bind fun t267 => (some t267)) else (some false)))) else (some false)))) else (some false))))) else (some false)))) = some r := by rw [if_neg (show ¬ (false = true) by decide)] at H; exact H
        clear H
        have H := H1
        clear H1
        replace H := Option.bind_eq_some_iff.mp H
        obtain ⟨t254, A270, H⟩ := H
        replace H : ((carillonref26_Has.f a1 a3).bind fun t255 => (if (t254 == t255) = true then ((view_List.f kj13 a1).bind fun t256 => ((carillonref26_List.f kj13 a1).bind fun t259 => ((carillonlaw26_numbers.f kj13 t256 t259).bind fun t262 => (if t262 = true then ((view_Count.f a1).bind fun t263 => ((carillonref26_Count.f kj13 a1).bind fun t264 => (if t263 = t264 then ((view_Within.f a1 a2).bind fun t265 => ((carillonref26_Within.f a1 a2).bind fun t266 => (if (t265 == t266) = true then ((carillonlaw26_awake.f).bind fun t267 => (some t267)) else (some false)))) else (some false)))) else (some false))))) else (some false))) = some r := H
        have A27 := Aside0.mk A270
        clear A270
        replace H := Option.bind_eq_some_iff.mp H
        obtain ⟨t255, A280, H⟩ := H
        replace H : (if (t254 == t255) = true then ((view_List.f kj13 a1).bind fun t256 => ((carillonref26_List.f kj13 a1).bind fun t259 => ((carillonlaw26_numbers.f kj13 t256 t259).bind fun t262 => (if t262 = true then ((view_Count.f a1).bind fun t263 => ((carillonref26_Count.f kj13 a1).bind fun t264 => (if t263 = t264 then ((view_Within.f a1 a2).bind fun t265 => ((carillonref26_Within.f a1 a2).bind fun t266 => (if (t265 == t266) = true then ((carillonlaw26_awake.f).bind fun t267 => (some t267)) else (some false)))) else (some false)))) else (some false))))) else (some false)) = some r := H
        have A28 := Aside0.mk A280
        clear A280
        by_cases c29 : (t254 == t255) = true
        · rw [if_pos c29] at H
          have c29b0 : (t254 == t255) = true := c29
          (try (have c29b1 : decide (t254 = t255) = true := by simpa using c29))
          (try (have c29b2 : (t254 == t255) = true := by simpa using c29))
          clear c29
          replace H := Option.bind_eq_some_iff.mp H
          obtain ⟨t256, A300, H⟩ := H
          replace H : ((carillonref26_List.f kj13 a1).bind fun t259 => ((carillonlaw26_numbers.f kj13 t256 t259).bind fun t262 => (if t262 = true then ((view_Count.f a1).bind fun t263 => ((carillonref26_Count.f kj13 a1).bind fun t264 => (if t263 = t264 then ((view_Within.f a1 a2).bind fun t265 => ((carillonref26_Within.f a1 a2).bind fun t266 => (if (t265 == t266) = true then ((carillonlaw26_awake.f).bind fun t267 => (some t267)) else (some false)))) else (some false)))) else (some false)))) = some r := H
          have A30 := Aside0.mk A300
          clear A300
          replace H := Option.bind_eq_some_iff.mp H
          obtain ⟨t259, A310, H⟩ := H
          replace H : ((carillonlaw26_numbers.f kj13 t256 t259).bind fun t262 => (if t262 = true then ((view_Count.f a1).bind fun t263 => ((carillonref26_Count.f kj13 a1).bind fun t264 => (if t263 = t264 then ((view_Within.f a1 a2).bind fun t265 => ((carillonref26_Within.f a1 a2).bind fun t266 => (if (t265 == t266) = true then ((carillonlaw26_awake.f).bind fun t267 => (some t267)) else (some false)))) else (some false)))) else (some false))) = some r := H
          have A31 := Aside0.mk A310
          clear A310
          replace H := Option.bind_eq_some_iff.mp H
          obtain ⟨t262, A320, H⟩ := H
          replace H : (if t262 = true then ((view_Count.f a1).bind fun t263 => ((carillonref26_Count.f kj13 a1).bind fun t264 => (if t263 = t264 then ((view_Within.f a1 a2).bind fun t265 => ((carillonref26_Within.f a1 a2).bind fun t266 => (if (t265 == t266) = true then ((carillonlaw26_awake.f).bind fun t267 => (some t267)) else (some false)))) else (some false)))) else (some false)) = some r := H
          have A32 := Aside0.mk A320
          clear A320
          by_cases c33 : t262 = true
          · subst c33
            have H1 : ((view_Count.f a1).bind fun t263 => ((carillonref26_Count.f kj13 a1).bind fun t264 => (if t263 = t264 then ((view_Within.f a1 a2).bind fun t265 => ((carillonref26_Within.f a1 a2).bind fun t266 => (if (t265 == t266) = true then ((carillonlaw26_awake.f).bind fun t267 => (some t267)) else (some false)))) else (some false)))) = some r := by rw [if_pos rfl] at H; exact H
            clear H
            have H := H1
            clear H1
            replace H := Option.bind_eq_some_iff.mp H
            obtain ⟨t263, A340, H⟩ := H
            replace H : ((carillonref26_Count.f kj13 a1).bind fun t264 => (if t263 = t264 then ((view_Within.f a1 a2).bind fun t265 => ((carillonref26_Within.f a1 a2).bind fun t266 => (if (t265 == t266) = true then ((carillonlaw26_awake.f).bind fun t267 => (some t267)) else (some false)))) else (some false))) = some r := H
            have A34 := Aside0.mk A340
            clear A340
            replace H := Option.bind_eq_some_iff.mp H
            obtain ⟨t264, A350, H⟩ := H
            replace H : (if t263 = t264 then ((view_Within.f a1 a2).bind fun t265 => ((carillonref26_Within.f a1 a2).bind fun t266 => (if (t265 == t266) = true then ((carillonlaw26_awake.f).bind fun t267 => (some t267)) else (some false)))) else (some false)) = some r := H
            have A35 := Aside0.mk A350
            clear A350
            by_cases c36 : t263 = t264
            · rw [if_pos c36] at H
              have c36b0 : (t263 == t264) = true := beq_iff_eq.mpr c36
              have c36b1 : (t263 != t264) = false := bne_eq_false_iff_eq.mpr c36
              clear c36
              replace H := Option.bind_eq_some_iff.mp H
              obtain ⟨t265, A370, H⟩ := H
              replace H : ((carillonref26_Within.f a1 a2).bind fun t266 => (if (t265 == t266) = true then ((carillonlaw26_awake.f).bind fun t267 => (some t267)) else (some false))) = some r := H
              have A37 := Aside0.mk A370
              clear A370
              replace H := Option.bind_eq_some_iff.mp H
              obtain ⟨t266, A380, H⟩ := H
              replace H : (if (t265 == t266) = true then ((carillonlaw26_awake.f).bind fun t267 => (some t267)) else (some false)) = some r := H
              have A38 := Aside0.mk A380
              clear A380
              by_cases c39 : (t265 == t266) = true
              · rw [if_pos c39] at H
                have c39b0 : (t265 == t266) = true := c39
                (try (have c39b1 : decide (t265 = t266) = true := by simpa using c39))
                (try (have c39b2 : (t265 == t266) = true := by simpa using c39))
                clear c39
                replace H := Option.bind_eq_some_iff.mp H
                obtain ⟨t267, A400, H⟩ := H
                replace H : (some t267) = some r := H
                have A40 := Aside0.mk A400
                clear A400
                obtain rfl := Option.some.inj H
                go_wp2_with (first | ((with_reducible refine gate_callee (f := 34) rfl ?_); refine goesL_ (some 113) rfl rfl Try.func34 (by kernel_rfl) rfl #[.int .i64 a1, .int .i64 a3] rfl (by (try simp only [List.map_toArray, List.map_cons, List.map_nil]); first | done | rfl | (simp only [List.length_drop, List.length_take]; rfl)) ?_; (with_reducible refine (view_Has.calls a1 a3 t254 _ A27.out).mono ?_); rintro e w' ⟨rfl, ⟨nd, rfl⟩⟩; refine ⟨_, rfl, ?_⟩) | ((with_reducible refine gate_callee (f := 62) rfl ?_); refine goesL_ (some 116) rfl rfl Try.func62 (by kernel_rfl) rfl #[.int .i64 a1, .int .i64 a3] rfl (by (try simp only [List.map_toArray, List.map_cons, List.map_nil]); first | done | rfl | (simp only [List.length_drop, List.length_take]; rfl)) ?_; (with_reducible refine (carillonref26_Has.calls a1 a3 t255 _ A28.out).mono ?_); rintro e w' ⟨rfl, ⟨nd, rfl⟩⟩; refine ⟨_, rfl, ?_⟩) | (go_at_call 56; (with_reducible refine (view_List.calls kj13 a1 t256 _ A30.out).mono ?_); rintro e w41 ⟨v257, rfl, ho0, hb⟩; have n0_ := Aside0.mk (Kd.R_lower ho0 (below_size (by repeat (first | (with_reducible first | exact HB.out | apply below_alloc | apply pw_below_drewN | apply below_drew1) | exact HB.out)))); have n1_ := Aside0.mk (below_step (by repeat (first | (with_reducible first | exact HB.out | apply below_alloc | apply pw_below_drewN | apply below_drew1) | exact HB.out)) hb); clear HB; have HO258 := n0_; have HB := n1_; clear n0_ n1_; (try clear hb); (try clear hb2); (try clear hk); (try clear hi); (try clear ho0)) | (go_at_call 64; (with_reducible refine (carillonref26_List.calls kj13 a1 t259 _ A31.out).mono ?_); rintro e w42 ⟨v260, rfl, ho0, hb⟩; have n0_ := Aside0.mk (Kd.R_elder' (by (with_reducible repeat (first | apply Kd.R_alloc | apply Kd.R_drewN | apply Kd.R_drew)); exact HO258.out) (Kd.R_base ho0) hb); have n1_ := Aside0.mk (Kd.R_lower (Kd.R_new' ho0 (Kd.R_lt (by (with_reducible repeat (first | apply Kd.R_alloc | apply Kd.R_drewN | apply Kd.R_drew)); exact HO258.out))) (below_size (by repeat (first | (with_reducible first | exact HB.out | apply below_alloc | apply pw_below_drewN | apply below_drew1) | exact HB.out)))); have n2_ := Aside0.mk (below_step (by repeat (first | (with_reducible first | exact HB.out | apply below_alloc | apply pw_below_drewN | apply below_drew1) | exact HB.out)) hb); clear HO258; clear HB; have HO258 := n0_; have HO261 := n1_; have HB := n2_; clear n0_ n1_ n2_; (try clear hb); (try clear hb2); (try clear hk); (try clear hi); (try clear ho0); obtain ⟨Ao43, co43, eo43⟩ := Kd.R_slice HO258.out; subst eo43; obtain ⟨Ao44, co44, eo44⟩ := Kd.R_slice HO261.out; subst eo44) | (go_at_call 63; (with_reducible refine (carillonlaw26_numbers.calls kj13 _ _ t256 _ _ t259 true _ ?side1 ?side2 ?side3 ?side4 A32.out).mono ?_); (case side1 => repeat (first | exact (Kd.R_reads' HO258.out).2.2 | (with_reducible refine Kd.C_alloc ?_ _) | (with_reducible refine Kd.C_drewN ?_ _) | (with_reducible refine Kd.C_drew ?_))); (case side2 => exact (Kd.R_reads' HO258.out).2.1); (case side3 => repeat (first | exact (Kd.R_reads' HO261.out).2.2 | (with_reducible refine Kd.C_alloc ?_ _) | (with_reducible refine Kd.C_drewN ?_ _) | (with_reducible refine Kd.C_drew ?_))); (case side4 => exact (Kd.R_reads' HO261.out).2.1); rintro e w' ⟨rfl, ⟨nd, rfl⟩⟩) | (go_at_call 36; (with_reducible refine (view_Count.calls a1 t263 _ A34.out).mono ?_); rintro e w45 ⟨rfl, hb⟩; have n0_ := Aside0.mk (Kd.R_below (by (with_reducible repeat (first | apply Kd.R_alloc | apply Kd.R_drewN | apply Kd.R_drew)); exact HO258.out) hb); have n1_ := Aside0.mk (Kd.R_below (by (with_reducible repeat (first | apply Kd.R_alloc | apply Kd.R_drewN | apply Kd.R_drew)); exact HO261.out) hb); have n2_ := Aside0.mk (below_step (by repeat (first | (with_reducible first | exact HB.out | apply below_alloc | apply pw_below_drewN | apply below_drew1) | exact HB.out)) hb); clear HO258; clear HO261; clear HB; have HO258 := n0_; have HO261 := n1_; have HB := n2_; clear n0_ n1_ n2_; (try clear hb); (try clear hb2); (try clear hk); (try clear hi)) | (go_at_call 65; (with_reducible refine (carillonref26_Count.calls kj13 a1 t264 _ A35.out).mono ?_); rintro e w46 ⟨rfl, hb⟩; have n0_ := Aside0.mk (Kd.R_below (by (with_reducible repeat (first | apply Kd.R_alloc | apply Kd.R_drewN | apply Kd.R_drew)); exact HO258.out) hb); have n1_ := Aside0.mk (Kd.R_below (by (with_reducible repeat (first | apply Kd.R_alloc | apply Kd.R_drewN | apply Kd.R_drew)); exact HO261.out) hb); have n2_ := Aside0.mk (below_step (by repeat (first | (with_reducible first | exact HB.out | apply below_alloc | apply pw_below_drewN | apply below_drew1) | exact HB.out)) hb); clear HO258; clear HO261; clear HB; have HO258 := n0_; have HO261 := n1_; have HB := n2_; clear n0_ n1_ n2_; (try clear hb); (try clear hb2); (try clear hk); (try clear hi)) | (go_at_call 35; (with_reducible refine (view_Within.calls a1 a2 t265 _ A37.out).mono ?_); rintro e w' ⟨rfl, ⟨nd, rfl⟩⟩) | (go_at_call 66; (with_reducible refine (carillonref26_Within.calls a1 a2 t266 _ A38.out).mono ?_); rintro e w' ⟨rfl, ⟨nd, rfl⟩⟩) | (go_at_call 33; (with_reducible refine (carillonlaw26_awake.calls  t267 _ A40.out).mono ?_); rintro e w47 ⟨rfl, hb⟩; have n0_ := Aside0.mk (Kd.R_below (by (with_reducible repeat (first | apply Kd.R_alloc | apply Kd.R_drewN | apply Kd.R_drew)); exact HO258.out) hb); have n1_ := Aside0.mk (Kd.R_below (by (with_reducible repeat (first | apply Kd.R_alloc | apply Kd.R_drewN | apply Kd.R_drew)); exact HO261.out) hb); have n2_ := Aside0.mk (below_step (by repeat (first | (with_reducible first | exact HB.out | apply below_alloc | apply pw_below_drewN | apply below_drew1) | exact HB.out)) hb); clear HO258; clear HO261; clear HB; have HO258 := n0_; have HO261 := n1_; have HB := n2_; clear n0_ n1_ n2_; (try clear hb); (try clear hb2); (try clear hk); (try clear hi)))
                go_ret
                exact ⟨by first | rfl | (simp [errW_none, errW_some] <;> rfl) | (simp [*, errW_none, errW_some] <;> rfl), by repeat (first | (with_reducible first | exact HB.out | apply below_alloc | apply pw_below_drewN | apply below_drew1) | exact HB.out)⟩
              · rw [if_neg c39] at H
                have c39b0 : (t265 == t266) = false := by simpa using c39
                (try (have c39b1 : decide (t265 = t266) = false := by simpa using c39))
                (try (have c39b2 : (t265 == t266) = false := by simpa using c39))
                (try (have c39b3 : ¬ (t265 = t266) := by simpa using c39))
                clear c39
                obtain rfl := Option.some.inj H
                go_wp2_with (first | ((with_reducible refine gate_callee (f := 34) rfl ?_); refine goesL_ (some 113) rfl rfl Try.func34 (by kernel_rfl) rfl #[.int .i64 a1, .int .i64 a3] rfl (by (try simp only [List.map_toArray, List.map_cons, List.map_nil]); first | done | rfl | (simp only [List.length_drop, List.length_take]; rfl)) ?_; (with_reducible refine (view_Has.calls a1 a3 t254 _ A27.out).mono ?_); rintro e w' ⟨rfl, ⟨nd, rfl⟩⟩; refine ⟨_, rfl, ?_⟩) | ((with_reducible refine gate_callee (f := 62) rfl ?_); refine goesL_ (some 116) rfl rfl Try.func62 (by kernel_rfl) rfl #[.int .i64 a1, .int .i64 a3] rfl (by (try simp only [List.map_toArray, List.map_cons, List.map_nil]); first | done | rfl | (simp only [List.length_drop, List.length_take]; rfl)) ?_; (with_reducible refine (carillonref26_Has.calls a1 a3 t255 _ A28.out).mono ?_); rintro e w' ⟨rfl, ⟨nd, rfl⟩⟩; refine ⟨_, rfl, ?_⟩) | (go_at_call 56; (with_reducible refine (view_List.calls kj13 a1 t256 _ A30.out).mono ?_); rintro e w48 ⟨v257, rfl, ho0, hb⟩; have n0_ := Aside0.mk (Kd.R_lower ho0 (below_size (by repeat (first | (with_reducible first | exact HB.out | apply below_alloc | apply pw_below_drewN | apply below_drew1) | exact HB.out)))); have n1_ := Aside0.mk (below_step (by repeat (first | (with_reducible first | exact HB.out | apply below_alloc | apply pw_below_drewN | apply below_drew1) | exact HB.out)) hb); clear HB; have HO258 := n0_; have HB := n1_; clear n0_ n1_; (try clear hb); (try clear hb2); (try clear hk); (try clear hi); (try clear ho0)) | (go_at_call 64; (with_reducible refine (carillonref26_List.calls kj13 a1 t259 _ A31.out).mono ?_); rintro e w49 ⟨v260, rfl, ho0, hb⟩; have n0_ := Aside0.mk (Kd.R_elder' (by (with_reducible repeat (first | apply Kd.R_alloc | apply Kd.R_drewN | apply Kd.R_drew)); exact HO258.out) (Kd.R_base ho0) hb); have n1_ := Aside0.mk (Kd.R_lower (Kd.R_new' ho0 (Kd.R_lt (by (with_reducible repeat (first | apply Kd.R_alloc | apply Kd.R_drewN | apply Kd.R_drew)); exact HO258.out))) (below_size (by repeat (first | (with_reducible first | exact HB.out | apply below_alloc | apply pw_below_drewN | apply below_drew1) | exact HB.out)))); have n2_ := Aside0.mk (below_step (by repeat (first | (with_reducible first | exact HB.out | apply below_alloc | apply pw_below_drewN | apply below_drew1) | exact HB.out)) hb); clear HO258; clear HB; have HO258 := n0_; have HO261 := n1_; have HB := n2_; clear n0_ n1_ n2_; (try clear hb); (try clear hb2); (try clear hk); (try clear hi); (try clear ho0); obtain ⟨Ao50, co50, eo50⟩ := Kd.R_slice HO258.out; subst eo50; obtain ⟨Ao51, co51, eo51⟩ := Kd.R_slice HO261.out; subst eo51) | (go_at_call 63; (with_reducible refine (carillonlaw26_numbers.calls kj13 _ _ t256 _ _ t259 true _ ?side1 ?side2 ?side3 ?side4 A32.out).mono ?_); (case side1 => repeat (first | exact (Kd.R_reads' HO258.out).2.2 | (with_reducible refine Kd.C_alloc ?_ _) | (with_reducible refine Kd.C_drewN ?_ _) | (with_reducible refine Kd.C_drew ?_))); (case side2 => exact (Kd.R_reads' HO258.out).2.1); (case side3 => repeat (first | exact (Kd.R_reads' HO261.out).2.2 | (with_reducible refine Kd.C_alloc ?_ _) | (with_reducible refine Kd.C_drewN ?_ _) | (with_reducible refine Kd.C_drew ?_))); (case side4 => exact (Kd.R_reads' HO261.out).2.1); rintro e w' ⟨rfl, ⟨nd, rfl⟩⟩) | (go_at_call 36; (with_reducible refine (view_Count.calls a1 t263 _ A34.out).mono ?_); rintro e w52 ⟨rfl, hb⟩; have n0_ := Aside0.mk (Kd.R_below (by (with_reducible repeat (first | apply Kd.R_alloc | apply Kd.R_drewN | apply Kd.R_drew)); exact HO258.out) hb); have n1_ := Aside0.mk (Kd.R_below (by (with_reducible repeat (first | apply Kd.R_alloc | apply Kd.R_drewN | apply Kd.R_drew)); exact HO261.out) hb); have n2_ := Aside0.mk (below_step (by repeat (first | (with_reducible first | exact HB.out | apply below_alloc | apply pw_below_drewN | apply below_drew1) | exact HB.out)) hb); clear HO258; clear HO261; clear HB; have HO258 := n0_; have HO261 := n1_; have HB := n2_; clear n0_ n1_ n2_; (try clear hb); (try clear hb2); (try clear hk); (try clear hi)) | (go_at_call 65; (with_reducible refine (carillonref26_Count.calls kj13 a1 t264 _ A35.out).mono ?_); rintro e w53 ⟨rfl, hb⟩; have n0_ := Aside0.mk (Kd.R_below (by (with_reducible repeat (first | apply Kd.R_alloc | apply Kd.R_drewN | apply Kd.R_drew)); exact HO258.out) hb); have n1_ := Aside0.mk (Kd.R_below (by (with_reducible repeat (first | apply Kd.R_alloc | apply Kd.R_drewN | apply Kd.R_drew)); exact HO261.out) hb); have n2_ := Aside0.mk (below_step (by repeat (first | (with_reducible first | exact HB.out | apply below_alloc | apply pw_below_drewN | apply below_drew1) | exact HB.out)) hb); clear HO258; clear HO261; clear HB; have HO258 := n0_; have HO261 := n1_; have HB := n2_; clear n0_ n1_ n2_; (try clear hb); (try clear hb2); (try clear hk); (try clear hi)) | (go_at_call 35; (with_reducible refine (view_Within.calls a1 a2 t265 _ A37.out).mono ?_); rintro e w' ⟨rfl, ⟨nd, rfl⟩⟩) | (go_at_call 66; (with_reducible refine (carillonref26_Within.calls a1 a2 t266 _ A38.out).mono ?_); rintro e w' ⟨rfl, ⟨nd, rfl⟩⟩))
                go_ret
                exact ⟨by first | rfl | (simp [errW_none, errW_some] <;> rfl) | (simp [*, errW_none, errW_some] <;> rfl), by repeat (first | (with_reducible first | exact HB.out | apply below_alloc | apply pw_below_drewN | apply below_drew1) | exact HB.out)⟩
            · rw [if_neg c36] at H
              have c36b0 : (t263 == t264) = false := beq_eq_false_iff_ne.mpr c36
              have c36b1 : (t263 != t264) = true := bne_iff_ne.mpr c36
              obtain rfl := Option.some.inj H
              go_wp2_with (first | ((with_reducible refine gate_callee (f := 34) rfl ?_); refine goesL_ (some 113) rfl rfl Try.func34 (by kernel_rfl) rfl #[.int .i64 a1, .int .i64 a3] rfl (by (try simp only [List.map_toArray, List.map_cons, List.map_nil]); first | done | rfl | (simp only [List.length_drop, List.length_take]; rfl)) ?_; (with_reducible refine (view_Has.calls a1 a3 t254 _ A27.out).mono ?_); rintro e w' ⟨rfl, ⟨nd, rfl⟩⟩; refine ⟨_, rfl, ?_⟩) | ((with_reducible refine gate_callee (f := 62) rfl ?_); refine goesL_ (some 116) rfl rfl Try.func62 (by kernel_rfl) rfl #[.int .i64 a1, .int .i64 a3] rfl (by (try simp only [List.map_toArray, List.map_cons, List.map_nil]); first | done | rfl | (simp only [List.length_drop, List.length_take]; rfl)) ?_; (with_reducible refine (carillonref26_Has.calls a1 a3 t255 _ A28.out).mono ?_); rintro e w' ⟨rfl, ⟨nd, rfl⟩⟩; refine ⟨_, rfl, ?_⟩) | (go_at_call 56; (with_reducible refine (view_List.calls kj13 a1 t256 _ A30.out).mono ?_); rintro e w54 ⟨v257, rfl, ho0, hb⟩; have n0_ := Aside0.mk (Kd.R_lower ho0 (below_size (by repeat (first | (with_reducible first | exact HB.out | apply below_alloc | apply pw_below_drewN | apply below_drew1) | exact HB.out)))); have n1_ := Aside0.mk (below_step (by repeat (first | (with_reducible first | exact HB.out | apply below_alloc | apply pw_below_drewN | apply below_drew1) | exact HB.out)) hb); clear HB; have HO258 := n0_; have HB := n1_; clear n0_ n1_; (try clear hb); (try clear hb2); (try clear hk); (try clear hi); (try clear ho0)) | (go_at_call 64; (with_reducible refine (carillonref26_List.calls kj13 a1 t259 _ A31.out).mono ?_); rintro e w55 ⟨v260, rfl, ho0, hb⟩; have n0_ := Aside0.mk (Kd.R_elder' (by (with_reducible repeat (first | apply Kd.R_alloc | apply Kd.R_drewN | apply Kd.R_drew)); exact HO258.out) (Kd.R_base ho0) hb); have n1_ := Aside0.mk (Kd.R_lower (Kd.R_new' ho0 (Kd.R_lt (by (with_reducible repeat (first | apply Kd.R_alloc | apply Kd.R_drewN | apply Kd.R_drew)); exact HO258.out))) (below_size (by repeat (first | (with_reducible first | exact HB.out | apply below_alloc | apply pw_below_drewN | apply below_drew1) | exact HB.out)))); have n2_ := Aside0.mk (below_step (by repeat (first | (with_reducible first | exact HB.out | apply below_alloc | apply pw_below_drewN | apply below_drew1) | exact HB.out)) hb); clear HO258; clear HB; have HO258 := n0_; have HO261 := n1_; have HB := n2_; clear n0_ n1_ n2_; (try clear hb); (try clear hb2); (try clear hk); (try clear hi); (try clear ho0); obtain ⟨Ao56, co56, eo56⟩ := Kd.R_slice HO258.out; subst eo56; obtain ⟨Ao57, co57, eo57⟩ := Kd.R_slice HO261.out; subst eo57) | (go_at_call 63; (with_reducible refine (carillonlaw26_numbers.calls kj13 _ _ t256 _ _ t259 true _ ?side1 ?side2 ?side3 ?side4 A32.out).mono ?_); (case side1 => repeat (first | exact (Kd.R_reads' HO258.out).2.2 | (with_reducible refine Kd.C_alloc ?_ _) | (with_reducible refine Kd.C_drewN ?_ _) | (with_reducible refine Kd.C_drew ?_))); (case side2 => exact (Kd.R_reads' HO258.out).2.1); (case side3 => repeat (first | exact (Kd.R_reads' HO261.out).2.2 | (with_reducible refine Kd.C_alloc ?_ _) | (with_reducible refine Kd.C_drewN ?_ _) | (with_reducible refine Kd.C_drew ?_))); (case side4 => exact (Kd.R_reads' HO261.out).2.1); rintro e w' ⟨rfl, ⟨nd, rfl⟩⟩) | (go_at_call 36; (with_reducible refine (view_Count.calls a1 t263 _ A34.out).mono ?_); rintro e w58 ⟨rfl, hb⟩; have n0_ := Aside0.mk (Kd.R_below (by (with_reducible repeat (first | apply Kd.R_alloc | apply Kd.R_drewN | apply Kd.R_drew)); exact HO258.out) hb); have n1_ := Aside0.mk (Kd.R_below (by (with_reducible repeat (first | apply Kd.R_alloc | apply Kd.R_drewN | apply Kd.R_drew)); exact HO261.out) hb); have n2_ := Aside0.mk (below_step (by repeat (first | (with_reducible first | exact HB.out | apply below_alloc | apply pw_below_drewN | apply below_drew1) | exact HB.out)) hb); clear HO258; clear HO261; clear HB; have HO258 := n0_; have HO261 := n1_; have HB := n2_; clear n0_ n1_ n2_; (try clear hb); (try clear hb2); (try clear hk); (try clear hi)) | (go_at_call 65; (with_reducible refine (carillonref26_Count.calls kj13 a1 t264 _ A35.out).mono ?_); rintro e w59 ⟨rfl, hb⟩; have n0_ := Aside0.mk (Kd.R_below (by (with_reducible repeat (first | apply Kd.R_alloc | apply Kd.R_drewN | apply Kd.R_drew)); exact HO258.out) hb); have n1_ := Aside0.mk (Kd.R_below (by (with_reducible repeat (first | apply Kd.R_alloc | apply Kd.R_drewN | apply Kd.R_drew)); exact HO261.out) hb); have n2_ := Aside0.mk (below_step (by repeat (first | (with_reducible first | exact HB.out | apply below_alloc | apply pw_below_drewN | apply below_drew1) | exact HB.out)) hb); clear HO258; clear HO261; clear HB; have HO258 := n0_; have HO261 := n1_; have HB := n2_; clear n0_ n1_ n2_; (try clear hb); (try clear hb2); (try clear hk); (try clear hi)))
              go_ret
              exact ⟨by first | rfl | (simp [errW_none, errW_some] <;> rfl) | (simp [*, errW_none, errW_some] <;> rfl), by repeat (first | (with_reducible first | exact HB.out | apply below_alloc | apply pw_below_drewN | apply below_drew1) | exact HB.out)⟩
          · replace c33 := Bool.eq_false_iff.mpr c33
            subst c33
            have H1 : (some false) = some r := by rw [if_neg (show ¬ (false = true) by decide)] at H; exact H
            clear H
            have H := H1
            clear H1
            obtain rfl := Option.some.inj H
            go_wp2_with (first | ((with_reducible refine gate_callee (f := 34) rfl ?_); refine goesL_ (some 113) rfl rfl Try.func34 (by kernel_rfl) rfl #[.int .i64 a1, .int .i64 a3] rfl (by (try simp only [List.map_toArray, List.map_cons, List.map_nil]); first | done | rfl | (simp only [List.length_drop, List.length_take]; rfl)) ?_; (with_reducible refine (view_Has.calls a1 a3 t254 _ A27.out).mono ?_); rintro e w' ⟨rfl, ⟨nd, rfl⟩⟩; refine ⟨_, rfl, ?_⟩) | ((with_reducible refine gate_callee (f := 62) rfl ?_); refine goesL_ (some 116) rfl rfl Try.func62 (by kernel_rfl) rfl #[.int .i64 a1, .int .i64 a3] rfl (by (try simp only [List.map_toArray, List.map_cons, List.map_nil]); first | done | rfl | (simp only [List.length_drop, List.length_take]; rfl)) ?_; (with_reducible refine (carillonref26_Has.calls a1 a3 t255 _ A28.out).mono ?_); rintro e w' ⟨rfl, ⟨nd, rfl⟩⟩; refine ⟨_, rfl, ?_⟩) | (go_at_call 56; (with_reducible refine (view_List.calls kj13 a1 t256 _ A30.out).mono ?_); rintro e w60 ⟨v257, rfl, ho0, hb⟩; have n0_ := Aside0.mk (Kd.R_lower ho0 (below_size (by repeat (first | (with_reducible first | exact HB.out | apply below_alloc | apply pw_below_drewN | apply below_drew1) | exact HB.out)))); have n1_ := Aside0.mk (below_step (by repeat (first | (with_reducible first | exact HB.out | apply below_alloc | apply pw_below_drewN | apply below_drew1) | exact HB.out)) hb); clear HB; have HO258 := n0_; have HB := n1_; clear n0_ n1_; (try clear hb); (try clear hb2); (try clear hk); (try clear hi); (try clear ho0)) | (go_at_call 64; (with_reducible refine (carillonref26_List.calls kj13 a1 t259 _ A31.out).mono ?_); rintro e w61 ⟨v260, rfl, ho0, hb⟩; have n0_ := Aside0.mk (Kd.R_elder' (by (with_reducible repeat (first | apply Kd.R_alloc | apply Kd.R_drewN | apply Kd.R_drew)); exact HO258.out) (Kd.R_base ho0) hb); have n1_ := Aside0.mk (Kd.R_lower (Kd.R_new' ho0 (Kd.R_lt (by (with_reducible repeat (first | apply Kd.R_alloc | apply Kd.R_drewN | apply Kd.R_drew)); exact HO258.out))) (below_size (by repeat (first | (with_reducible first | exact HB.out | apply below_alloc | apply pw_below_drewN | apply below_drew1) | exact HB.out)))); have n2_ := Aside0.mk (below_step (by repeat (first | (with_reducible first | exact HB.out | apply below_alloc | apply pw_below_drewN | apply below_drew1) | exact HB.out)) hb); clear HO258; clear HB; have HO258 := n0_; have HO261 := n1_; have HB := n2_; clear n0_ n1_ n2_; (try clear hb); (try clear hb2); (try clear hk); (try clear hi); (try clear ho0); obtain ⟨Ao62, co62, eo62⟩ := Kd.R_slice HO258.out; subst eo62; obtain ⟨Ao63, co63, eo63⟩ := Kd.R_slice HO261.out; subst eo63) | (go_at_call 63; (with_reducible refine (carillonlaw26_numbers.calls kj13 _ _ t256 _ _ t259 false _ ?side1 ?side2 ?side3 ?side4 A32.out).mono ?_); (case side1 => repeat (first | exact (Kd.R_reads' HO258.out).2.2 | (with_reducible refine Kd.C_alloc ?_ _) | (with_reducible refine Kd.C_drewN ?_ _) | (with_reducible refine Kd.C_drew ?_))); (case side2 => exact (Kd.R_reads' HO258.out).2.1); (case side3 => repeat (first | exact (Kd.R_reads' HO261.out).2.2 | (with_reducible refine Kd.C_alloc ?_ _) | (with_reducible refine Kd.C_drewN ?_ _) | (with_reducible refine Kd.C_drew ?_))); (case side4 => exact (Kd.R_reads' HO261.out).2.1); rintro e w' ⟨rfl, ⟨nd, rfl⟩⟩))
            go_ret
            exact ⟨by first | rfl | (simp [errW_none, errW_some] <;> rfl) | (simp [*, errW_none, errW_some] <;> rfl), by repeat (first | (with_reducible first | exact HB.out | apply below_alloc | apply pw_below_drewN | apply below_drew1) | exact HB.out)⟩
        · rw [if_neg c29] at H
          have c29b0 : (t254 == t255) = false := by simpa using c29
          (try (have c29b1 : decide (t254 = t255) = false := by simpa using c29))
          (try (have c29b2 : (t254 == t255) = false := by simpa using c29))
          (try (have c29b3 : ¬ (t254 = t255) := by simpa using c29))
          clear c29
          obtain rfl := Option.some.inj H
          go_wp2_with (first | ((with_reducible refine gate_callee (f := 34) rfl ?_); refine goesL_ (some 113) rfl rfl Try.func34 (by kernel_rfl) rfl #[.int .i64 a1, .int .i64 a3] rfl (by (try simp only [List.map_toArray, List.map_cons, List.map_nil]); first | done | rfl | (simp only [List.length_drop, List.length_take]; rfl)) ?_; (with_reducible refine (view_Has.calls a1 a3 t254 _ A27.out).mono ?_); rintro e w' ⟨rfl, ⟨nd, rfl⟩⟩; refine ⟨_, rfl, ?_⟩) | ((with_reducible refine gate_callee (f := 62) rfl ?_); refine goesL_ (some 116) rfl rfl Try.func62 (by kernel_rfl) rfl #[.int .i64 a1, .int .i64 a3] rfl (by (try simp only [List.map_toArray, List.map_cons, List.map_nil]); first | done | rfl | (simp only [List.length_drop, List.length_take]; rfl)) ?_; (with_reducible refine (carillonref26_Has.calls a1 a3 t255 _ A28.out).mono ?_); rintro e w' ⟨rfl, ⟨nd, rfl⟩⟩; refine ⟨_, rfl, ?_⟩))
          go_ret
          exact ⟨by first | rfl | (simp [errW_none, errW_some] <;> rfl) | (simp [*, errW_none, errW_some] <;> rfl), by repeat (first | (with_reducible first | exact HB.out | apply below_alloc | apply pw_below_drewN | apply below_drew1) | exact HB.out)⟩

/-- THE ONE PURE STATEMENT of carillonlaw26_ViewAll: yours. -/
def carillonlaw26_ViewAll.Pure : Prop := ∀ (l0 : List Int) (a1 : Int) (a2 : Int) (a3 : Int) (a4 : Int), l0.length ≤ maxLen → l0.length * 8 ≤ 140737488351232 → (∀ x ∈ l0, (Lit.int .i64 x).wf = true) → (Lit.int .i64 a1).wf = true → (Lit.int .i64 a2).wf = true → (Lit.int .i64 a3).wf = true → (Lit.int .i64 a4).wf = true → ∃ k, carillonlaw26_ViewAll.f k l0 a1 a2 a3 a4 = some true
theorem carillonlaw26_ViewAll.walk (P : carillonlaw26_ViewAll.Pure) (a0 : Option Addr) (len0 cap0 : Nat) (z0 : List Int) (a1 : Int) (a2 : Int) (a3 : Int) (a4 : Int) (w : World) (w0 : (a0 = none ∧ len0 = 0 ∧ cap0 = 0 ∧ z0 = []) ∨ ∃ x, a0 = some x ∧ len0 ≤ cap0 ∧ cap0 ≤ maxLen ∧ z0.length = cap0 ∧ (∀ i, i < z0.length → w.cell? (x.add i) = some (.int .i64 (z0.getD i 0))) ∧ ∀ n ∈ z0, (Lit.int .i64 n).wf = true) (y0 : len0 * 8 ≤ 140737488351232) (w1 : (Lit.int .i64 a1).wf = true) (w2 : (Lit.int .i64 a2).wf = true) (w3 : (Lit.int .i64 a3).wf = true) (w4 : (Lit.int .i64 a4).wf = true) :
    Calls Try.prog 13 #[.slice a0 len0 cap0, .int .i64 a1, .int .i64 a2, .int .i64 a3, .int .i64 a4] w fun e w' => e = .returned (.bool true) ∧ Below w.heap.size w w' := by
  obtain ⟨l0, rfl, hr0, hm0, hw0, hc0⟩ := ReadsInt.ofRowC w0
  obtain ⟨k, h⟩ := P l0 a1 a2 a3 a4 hm0 y0 hw0 w1 w2 w3 w4
  refine (carillonlaw26_ViewAll.calls k _ _ l0 a1 a2 a3 a4 true w (Kd.C_of_reads (d := (0 : Int)) (h1 := fun _ => rfl) hr0) hc0 h).mono ?_
  rintro e w' ⟨rfl, hd⟩
  exact ⟨rfl, hd⟩

end Go.Proofs.Ytaoiamifofkklaa.PViewA
