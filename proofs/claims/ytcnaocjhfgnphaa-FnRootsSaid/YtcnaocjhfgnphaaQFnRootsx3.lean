-- The machine's side of the law FnRoots: functions and their walks, made by q.py out of the kit's own print.
import Derived.Test.YtcnaocjhfgnphaaQFnRootsx0
import Derived.Test.YtcnaocjhfgnphaaQFnRootsx1
import Derived.Test.YtcnaocjhfgnphaaQFnRootsx2
namespace Go.Proofs.Ytcnaocjhfgnphaa.PFnRoots
open Go.RowKit Go.Proofs.YtcnaocjhfgnphaaW.PrintWords Go.Proofs.YtcnaocjhfgnphaaW.PrintLast Go.Proofs.YtcnaocjhfgnphaaW.PrintMore
attribute [local go_sem] max2_int min2_int max_two min_two max_three min_three max_four min_four   -- for this text's walks alone
set_option linter.unusedVariables false
set_option linter.unusedSimpArgs false

/-! ### laws_FnRoots: function 3 -/
def laws_FnRoots.j0 : Nat → Int → Int → Int → Int → Int → Int → Int → Int → Int → Bool → Option (Bool)
  | 0, _, _, _, _, _, _, _, _, _, _ => none
  | k + 1, x3, x4, x5, x8, x9, x10, x11, x12, x13, x70 => if x70 = true then (some false) else (if x13 = 0 then (if x12 < (mn x8 x9) then (some false) else (if x12 > (mx x8 x9) then (some false) else (if x10 = 0 then (if x12 = x8 then (if x10 = x11 then (if x12 = x9 then (if x5 = 0 then (if (wrap64 (x4 * x4)) ≤ x3 then (some (decide ((wrap64 ((wrap64 (x4 + 1)) * (wrap64 (x4 + 1)))) > x3))) else (some false)) else (some true)) else (some false)) else (if x5 = 0 then (if (wrap64 (x4 * x4)) ≤ x3 then (some (decide ((wrap64 ((wrap64 (x4 + 1)) * (wrap64 (x4 + 1)))) > x3))) else (some false)) else (some true))) else (some false)) else (if x10 = x11 then (if x12 = x9 then (if x5 = 0 then (if (wrap64 (x4 * x4)) ≤ x3 then (some (decide ((wrap64 ((wrap64 (x4 + 1)) * (wrap64 (x4 + 1)))) > x3))) else (some false)) else (some true)) else (some false)) else (if x5 = 0 then (if (wrap64 (x4 * x4)) ≤ x3 then (some (decide ((wrap64 ((wrap64 (x4 + 1)) * (wrap64 (x4 + 1)))) > x3))) else (some false)) else (some true)))))) else (if x5 = 0 then (if (wrap64 (x4 * x4)) ≤ x3 then (some (decide ((wrap64 ((wrap64 (x4 + 1)) * (wrap64 (x4 + 1)))) > x3))) else (some false)) else (some true)))
def laws_FnRoots.f (k : Nat) (l0 : List Int) : Option (Bool) := (laws_big.f l0).bind fun t192 => (if t192 = true then (some true) else ((spec_DrawRootOf.f k l0).bind fun t193 => ((impl_RootOf.f k t193).bind fun bt194 => ((spec_RootOf.f k t193).bind fun bt196 => ((spec_DrawMixOf.f k l0).bind fun bt198 => ((impl_MixOf.f bt198.1 bt198.2.1 bt198.2.2.1 bt198.2.2.2).bind fun bt202 => ((spec_MixOf.f bt198.1 bt198.2.1 bt198.2.2.1 bt198.2.2.2).bind fun bt204 => (if bt194.2 = bt196.2 then (if bt194.1 = bt196.1 then (if bt202.2 = bt204.2 then (laws_FnRoots.j0 k t193 bt194.1 bt194.2 bt198.1 bt198.2.1 bt198.2.2.1 bt198.2.2.2 bt202.1 bt202.2 (bt202.1 != bt204.1)) else (laws_FnRoots.j0 k t193 bt194.1 bt194.2 bt198.1 bt198.2.1 bt198.2.2.1 bt198.2.2.2 bt202.1 bt202.2 true)) else (laws_FnRoots.j0 k t193 bt194.1 bt194.2 bt198.1 bt198.2.1 bt198.2.2.1 bt198.2.2.2 bt202.1 bt202.2 true)) else (laws_FnRoots.j0 k t193 bt194.1 bt194.2 bt198.1 bt198.2.1 bt198.2.2.1 bt198.2.2.2 bt202.1 bt202.2 true)))))))))
theorem laws_FnRoots.mono_l : ∀ k, (∀ y0 y1 y2 y3 y4 y5 y6 y7 y8 y9, LeO (laws_FnRoots.j0 k y0 y1 y2 y3 y4 y5 y6 y7 y8 y9) (laws_FnRoots.j0 (k + 1) y0 y1 y2 y3 y4 y5 y6 y7 y8 y9))
  | 0 => fun _ _ _ _ _ _ _ _ _ _ r h => by simp [laws_FnRoots.j0] at h
  | k + 1 => by
    have ih0 := laws_FnRoots.mono_l k
    · intro y0 y1 y2 y3 y4 y5 y6 y7 y8 y9
      unfold laws_FnRoots.j0
      repeat' first
      | (with_reducible exact ih0 _ _ _ _ _ _ _ _ _ _)
      | (with_reducible exact impl_RootOf.mono _ _)
      | (with_reducible exact spec_DrawMixOf.mono _ _)
      | (with_reducible exact spec_DrawRootOf.mono _ _)
      | (with_reducible exact spec_RootOf.mono _ _)
      | (with_reducible exact LeO.refl _)
      | (with_reducible exact LeO.none _)
      | (with_reducible refine LeO.ite ?_ ?_)
      | (with_reducible refine LeO.bind ?_ (fun _ => ?_))
      | exact ih0 _ _ _ _ _ _ _ _ _ _
      | exact impl_RootOf.mono _ _
      | exact spec_DrawMixOf.mono _ _
      | exact spec_DrawRootOf.mono _ _
      | exact spec_RootOf.mono _ _
      | exact LeO.none _
      | refine LeO.ite ?_ ?_
      | refine LeO.bind ?_ (fun _ => ?_)
theorem laws_FnRoots.mono : ∀ a0 k, LeO (laws_FnRoots.f k a0) (laws_FnRoots.f (k + 1) a0) := by
  intro a0 k
  have ih0 := laws_FnRoots.mono_l k
  unfold laws_FnRoots.f
  repeat' first
      | (with_reducible exact ih0 _ _ _ _ _ _ _ _ _ _)
      | (with_reducible exact impl_RootOf.mono _ _)
      | (with_reducible exact spec_DrawMixOf.mono _ _)
      | (with_reducible exact spec_DrawRootOf.mono _ _)
      | (with_reducible exact spec_RootOf.mono _ _)
      | (with_reducible exact LeO.refl _)
      | (with_reducible exact LeO.none _)
      | (with_reducible refine LeO.ite ?_ ?_)
      | (with_reducible refine LeO.bind ?_ (fun _ => ?_))
      | exact ih0 _ _ _ _ _ _ _ _ _ _
      | exact impl_RootOf.mono _ _
      | exact spec_DrawMixOf.mono _ _
      | exact spec_DrawRootOf.mono _ _
      | exact spec_RootOf.mono _ _
      | exact LeO.none _
      | refine LeO.ite ?_ ?_
      | refine LeO.bind ?_ (fun _ => ?_)
set_option maxHeartbeats 8000000 in
set_option maxRecDepth 100000 in
theorem laws_FnRoots.calls (k : Nat) (A0 : Option Addr) (c0 : Nat) (l0 : List Int) (r : Bool) (w : World) (hr0 : Kd.C (Kd.int .u8) w A0 l0.length l0) (hc0 : l0.length ≤ c0) (h : laws_FnRoots.f k l0 = some r) :
    Calls Try.prog 3 #[.slice A0 l0.length c0] w fun e w' => e = .returned (.bool r) ∧ Below w.heap.size w w' := by
  have HR0 := Aside0.mk hr0
  have HC0 := Aside0.mk hc0
  clear hr0 hc0
  have HB := Aside0.mk (Below.refl w.heap.size w)
  have H : ((laws_big.f l0).bind fun t192 => (if t192 = true then (some true) else ((spec_DrawRootOf.f k l0).bind fun t193 => ((impl_RootOf.f k t193).bind fun bt194 => ((spec_RootOf.f k t193).bind fun bt196 => ((spec_DrawMixOf.f k l0).bind fun bt198 => ((impl_MixOf.f bt198.1 bt198.2.1 bt198.2.2.1 bt198.2.2.2).bind fun bt202 => ((spec_MixOf.f bt198.1 bt198.2.1 bt198.2.2.1 bt198.2.2.2).bind fun bt204 => (if bt194.2 = bt196.2 then (if bt194.1 = bt196.1 then (if bt202.2 = bt204.2 then (laws_FnRoots.j0 k t193 bt194.1 bt194.2 bt198.1 bt198.2.1 bt198.2.2.1 bt198.2.2.2 bt202.1 bt202.2 (bt202.1 != bt204.1)) else (laws_FnRoots.j0 k t193 bt194.1 bt194.2 bt198.1 bt198.2.1 bt198.2.2.1 bt198.2.2.2 bt202.1 bt202.2 true)) else (laws_FnRoots.j0 k t193 bt194.1 bt194.2 bt198.1 bt198.2.1 bt198.2.2.1 bt198.2.2.2 bt202.1 bt202.2 true)) else (laws_FnRoots.j0 k t193 bt194.1 bt194.2 bt198.1 bt198.2.1 bt198.2.2.1 bt198.2.2.2 bt202.1 bt202.2 true)))))))))) = some r := h
  clear h
  replace H := Option.bind_eq_some_iff.mp H
  obtain ⟨t192, A20, H⟩ := H
  replace H : (if t192 = true then (some true) else ((spec_DrawRootOf.f k l0).bind fun t193 => ((impl_RootOf.f k t193).bind fun bt194 => ((spec_RootOf.f k t193).bind fun bt196 => ((spec_DrawMixOf.f k l0).bind fun bt198 => ((impl_MixOf.f bt198.1 bt198.2.1 bt198.2.2.1 bt198.2.2.2).bind fun bt202 => ((spec_MixOf.f bt198.1 bt198.2.1 bt198.2.2.1 bt198.2.2.2).bind fun bt204 => (if bt194.2 = bt196.2 then (if bt194.1 = bt196.1 then (if bt202.2 = bt204.2 then (laws_FnRoots.j0 k t193 bt194.1 bt194.2 bt198.1 bt198.2.1 bt198.2.2.1 bt198.2.2.2 bt202.1 bt202.2 (bt202.1 != bt204.1)) else (laws_FnRoots.j0 k t193 bt194.1 bt194.2 bt198.1 bt198.2.1 bt198.2.2.1 bt198.2.2.2 bt202.1 bt202.2 true)) else (laws_FnRoots.j0 k t193 bt194.1 bt194.2 bt198.1 bt198.2.1 bt198.2.2.1 bt198.2.2.2 bt202.1 bt202.2 true)) else (laws_FnRoots.j0 k t193 bt194.1 bt194.2 bt198.1 bt198.2.1 bt198.2.2.1 bt198.2.2.2 bt202.1 bt202.2 true))))))))) = some r := H
  have A2 := Aside0.mk A20
  clear A20
  by_cases c3 : t192 = true
  · subst c3
    have H1 : (some true) = some r := by rw [if_pos rfl] at H; exact H
    clear H
    have H := H1
    clear H1
    obtain rfl := Option.some.inj H
    go_enter Try.func3, Try.ntmps3
    go_wp2_with (first | ((with_reducible refine gate_callee (f := 9) rfl ?_); refine goesL_ (some 17) rfl rfl Try.func9 (by kernel_rfl) rfl #[.slice A0 l0.length c0] rfl (by (try simp only [List.map_toArray, List.map_cons, List.map_nil]); first | done | rfl | (simp only [List.length_drop, List.length_take]; rfl)) ?_; (with_reducible refine (laws_big.calls _ _ l0 true _ ?side1 ?side2 A2.out).mono ?_); (case side1 => repeat (first | exact HR0.out | (with_reducible refine Kd.C_alloc ?_ _) | (with_reducible refine Kd.C_drewN ?_ _) | (with_reducible refine Kd.C_drew ?_))); (case side2 => exact HC0.out); rintro e w' ⟨rfl, ⟨nd, rfl⟩⟩; refine ⟨_, rfl, ?_⟩))
    go_ret
    exact ⟨by first | rfl | (simp [errW_none, errW_some] <;> rfl) | (simp [*, errW_none, errW_some] <;> rfl), by repeat (first | (with_reducible first | exact HB.out | apply below_alloc | apply pw_below_drewN | apply below_drew1) | exact HB.out)⟩
  · replace c3 := Bool.eq_false_iff.mpr c3
    subst c3
    have H1 : ((spec_DrawRootOf.f k l0).bind fun t193 => ((impl_RootOf.f k t193).bind fun bt194 => ((spec_RootOf.f k t193).bind fun bt196 => ((spec_DrawMixOf.f k l0).bind fun bt198 => ((impl_MixOf.f bt198.1 bt198.2.1 bt198.2.2.1 bt198.2.2.2).bind fun bt202 => ((spec_MixOf.f bt198.1 bt198.2.1 bt198.2.2.1 bt198.2.2.2).bind fun bt204 => (if bt194.2 = bt196.2 then (if bt194.1 = bt196.1 then (if bt202.2 = bt204.2 then (laws_FnRoots.j0 k t193 bt194.1 bt194.2 bt198.1 bt198.2.1 bt198.2.2.1 bt198.2.2.2 bt202.1 bt202.2 (bt202.1 != bt204.1)) else (laws_FnRoots.j0 k t193 bt194.1 bt194.2 bt198.1 bt198.2.1 bt198.2.2.1 bt198.2.2.2 bt202.1 bt202.2 true)) else (laws_FnRoots.j0 k t193 bt194.1 bt194.2 bt198.1 bt198.2.1 bt198.2.2.1 bt198.2.2.2 bt202.1 bt202.2 true)) else (laws_FnRoots.j0 k t193 bt194.1 bt194.2 bt198.1 bt198.2.1 bt198.2.2.1 bt198.2.2.2 bt202.1 bt202.2 true)))))))) = some r := by rw [if_neg (show ¬ (false = true) by decide)] at H; exact H
    clear H
    have H := H1
    clear H1
    replace H := Option.bind_eq_some_iff.mp H
    obtain ⟨t193, A40, H⟩ := H
    replace H : ((impl_RootOf.f k t193).bind fun bt194 => ((spec_RootOf.f k t193).bind fun bt196 => ((spec_DrawMixOf.f k l0).bind fun bt198 => ((impl_MixOf.f bt198.1 bt198.2.1 bt198.2.2.1 bt198.2.2.2).bind fun bt202 => ((spec_MixOf.f bt198.1 bt198.2.1 bt198.2.2.1 bt198.2.2.2).bind fun bt204 => (if bt194.2 = bt196.2 then (if bt194.1 = bt196.1 then (if bt202.2 = bt204.2 then (laws_FnRoots.j0 k t193 bt194.1 bt194.2 bt198.1 bt198.2.1 bt198.2.2.1 bt198.2.2.2 bt202.1 bt202.2 (bt202.1 != bt204.1)) else (laws_FnRoots.j0 k t193 bt194.1 bt194.2 bt198.1 bt198.2.1 bt198.2.2.1 bt198.2.2.2 bt202.1 bt202.2 true)) else (laws_FnRoots.j0 k t193 bt194.1 bt194.2 bt198.1 bt198.2.1 bt198.2.2.1 bt198.2.2.2 bt202.1 bt202.2 true)) else (laws_FnRoots.j0 k t193 bt194.1 bt194.2 bt198.1 bt198.2.1 bt198.2.2.1 bt198.2.2.2 bt202.1 bt202.2 true))))))) = some r := H
    have A4 := Aside0.mk A40
    clear A40
    replace H := Option.bind_eq_some_iff.mp H
    obtain ⟨⟨t194, t195⟩, A50, H⟩ := H
    replace H : ((spec_RootOf.f k t193).bind fun bt196 => ((spec_DrawMixOf.f k l0).bind fun bt198 => ((impl_MixOf.f bt198.1 bt198.2.1 bt198.2.2.1 bt198.2.2.2).bind fun bt202 => ((spec_MixOf.f bt198.1 bt198.2.1 bt198.2.2.1 bt198.2.2.2).bind fun bt204 => (if t195 = bt196.2 then (if t194 = bt196.1 then (if bt202.2 = bt204.2 then (laws_FnRoots.j0 k t193 t194 t195 bt198.1 bt198.2.1 bt198.2.2.1 bt198.2.2.2 bt202.1 bt202.2 (bt202.1 != bt204.1)) else (laws_FnRoots.j0 k t193 t194 t195 bt198.1 bt198.2.1 bt198.2.2.1 bt198.2.2.2 bt202.1 bt202.2 true)) else (laws_FnRoots.j0 k t193 t194 t195 bt198.1 bt198.2.1 bt198.2.2.1 bt198.2.2.2 bt202.1 bt202.2 true)) else (laws_FnRoots.j0 k t193 t194 t195 bt198.1 bt198.2.1 bt198.2.2.1 bt198.2.2.2 bt202.1 bt202.2 true)))))) = some r := H
    have A5 := Aside0.mk A50
    clear A50
    replace H := Option.bind_eq_some_iff.mp H
    obtain ⟨⟨t196, t197⟩, A60, H⟩ := H
    replace H : ((spec_DrawMixOf.f k l0).bind fun bt198 => ((impl_MixOf.f bt198.1 bt198.2.1 bt198.2.2.1 bt198.2.2.2).bind fun bt202 => ((spec_MixOf.f bt198.1 bt198.2.1 bt198.2.2.1 bt198.2.2.2).bind fun bt204 => (if t195 = t197 then (if t194 = t196 then (if bt202.2 = bt204.2 then (laws_FnRoots.j0 k t193 t194 t195 bt198.1 bt198.2.1 bt198.2.2.1 bt198.2.2.2 bt202.1 bt202.2 (bt202.1 != bt204.1)) else (laws_FnRoots.j0 k t193 t194 t195 bt198.1 bt198.2.1 bt198.2.2.1 bt198.2.2.2 bt202.1 bt202.2 true)) else (laws_FnRoots.j0 k t193 t194 t195 bt198.1 bt198.2.1 bt198.2.2.1 bt198.2.2.2 bt202.1 bt202.2 true)) else (laws_FnRoots.j0 k t193 t194 t195 bt198.1 bt198.2.1 bt198.2.2.1 bt198.2.2.2 bt202.1 bt202.2 true))))) = some r := H
    have A6 := Aside0.mk A60
    clear A60
    replace H := Option.bind_eq_some_iff.mp H
    obtain ⟨⟨t198, t199, t200, t201⟩, A70, H⟩ := H
    replace H : ((impl_MixOf.f t198 t199 t200 t201).bind fun bt202 => ((spec_MixOf.f t198 t199 t200 t201).bind fun bt204 => (if t195 = t197 then (if t194 = t196 then (if bt202.2 = bt204.2 then (laws_FnRoots.j0 k t193 t194 t195 t198 t199 t200 t201 bt202.1 bt202.2 (bt202.1 != bt204.1)) else (laws_FnRoots.j0 k t193 t194 t195 t198 t199 t200 t201 bt202.1 bt202.2 true)) else (laws_FnRoots.j0 k t193 t194 t195 t198 t199 t200 t201 bt202.1 bt202.2 true)) else (laws_FnRoots.j0 k t193 t194 t195 t198 t199 t200 t201 bt202.1 bt202.2 true)))) = some r := H
    have A7 := Aside0.mk A70
    clear A70
    replace H := Option.bind_eq_some_iff.mp H
    obtain ⟨⟨t202, t203⟩, A80, H⟩ := H
    replace H : ((spec_MixOf.f t198 t199 t200 t201).bind fun bt204 => (if t195 = t197 then (if t194 = t196 then (if t203 = bt204.2 then (laws_FnRoots.j0 k t193 t194 t195 t198 t199 t200 t201 t202 t203 (t202 != bt204.1)) else (laws_FnRoots.j0 k t193 t194 t195 t198 t199 t200 t201 t202 t203 true)) else (laws_FnRoots.j0 k t193 t194 t195 t198 t199 t200 t201 t202 t203 true)) else (laws_FnRoots.j0 k t193 t194 t195 t198 t199 t200 t201 t202 t203 true))) = some r := H
    have A8 := Aside0.mk A80
    clear A80
    replace H := Option.bind_eq_some_iff.mp H
    obtain ⟨⟨t204, t205⟩, A90, H⟩ := H
    replace H : (if t195 = t197 then (if t194 = t196 then (if t203 = t205 then (laws_FnRoots.j0 k t193 t194 t195 t198 t199 t200 t201 t202 t203 (t202 != t204)) else (laws_FnRoots.j0 k t193 t194 t195 t198 t199 t200 t201 t202 t203 true)) else (laws_FnRoots.j0 k t193 t194 t195 t198 t199 t200 t201 t202 t203 true)) else (laws_FnRoots.j0 k t193 t194 t195 t198 t199 t200 t201 t202 t203 true)) = some r := H
    have A9 := Aside0.mk A90
    clear A90
    have HC10 := Aside0.mk H
    clear H
    go_enter Try.func3, Try.ntmps3
    go_upto_region 9 with (first | ((with_reducible refine gate_callee (f := 9) rfl ?_); refine goesL_ (some 17) rfl rfl Try.func9 (by kernel_rfl) rfl #[.slice A0 l0.length c0] rfl (by (try simp only [List.map_toArray, List.map_cons, List.map_nil]); first | done | rfl | (simp only [List.length_drop, List.length_take]; rfl)) ?_; (with_reducible refine (laws_big.calls _ _ l0 false _ ?side1 ?side2 A2.out).mono ?_); (case side1 => repeat (first | exact HR0.out | (with_reducible refine Kd.C_alloc ?_ _) | (with_reducible refine Kd.C_drewN ?_ _) | (with_reducible refine Kd.C_drew ?_))); (case side2 => exact HC0.out); rintro e w' ⟨rfl, ⟨nd, rfl⟩⟩; refine ⟨_, rfl, ?_⟩) | ((with_reducible refine gate_callee (f := 10) rfl ?_); refine goesL_ (some 19) rfl rfl Try.func10 (by kernel_rfl) rfl #[.slice A0 l0.length c0] rfl (by (try simp only [List.map_toArray, List.map_cons, List.map_nil]); first | done | rfl | (simp only [List.length_drop, List.length_take]; rfl)) ?_; (with_reducible refine (spec_DrawRootOf.calls k _ _ l0 t193 _ ?side1 ?side2 A4.out).mono ?_); (case side1 => repeat (first | exact HR0.out | (with_reducible refine Kd.C_alloc ?_ _) | (with_reducible refine Kd.C_drewN ?_ _) | (with_reducible refine Kd.C_drew ?_))); (case side2 => exact HC0.out); rintro e w11 ⟨rfl, hb⟩; refine ⟨_, rfl, ?_⟩; have n0_ := Aside0.mk (below_step (by repeat (first | (with_reducible first | exact HB.out | apply below_alloc | apply pw_below_drewN | apply below_drew1) | exact HB.out)) hb); clear HB; have HB := n0_; clear n0_; (try clear hb); (try clear hb2); (try clear hk); (try clear hi)) | ((with_reducible refine gate_callee (f := 11) rfl ?_); refine goesL_ (some 22) rfl rfl Try.func11 (by kernel_rfl) rfl #[.int .i64 t193] rfl (by (try simp only [List.map_toArray, List.map_cons, List.map_nil]); first | done | rfl | (simp only [List.length_drop, List.length_take]; rfl)) ?_; (with_reducible refine (impl_RootOf.calls k t193 t194 t195 _ A5.out).mono ?_); rintro e w' ⟨rfl, ⟨nd, rfl⟩⟩; refine ⟨_, rfl, ?_⟩) | ((with_reducible refine gate_callee (f := 12) rfl ?_); refine goesL_ (some 27) rfl rfl Try.func12 (by kernel_rfl) rfl #[.int .i64 t193] rfl (by (try simp only [List.map_toArray, List.map_cons, List.map_nil]); first | done | rfl | (simp only [List.length_drop, List.length_take]; rfl)) ?_; (with_reducible refine (spec_RootOf.calls k t193 t196 t197 _ A6.out).mono ?_); rintro e w' ⟨rfl, ⟨nd, rfl⟩⟩; refine ⟨_, rfl, ?_⟩) | ((with_reducible refine gate_callee (f := 13) rfl ?_); refine goesL_ (some 32) rfl rfl Try.func13 (by kernel_rfl) rfl #[.slice A0 l0.length c0] rfl (by (try simp only [List.map_toArray, List.map_cons, List.map_nil]); first | done | rfl | (simp only [List.length_drop, List.length_take]; rfl)) ?_; (with_reducible refine (spec_DrawMixOf.calls k _ _ l0 t198 t199 t200 t201 _ ?side1 ?side2 A7.out).mono ?_); (case side1 => repeat (first | exact (Kd.C_below HR0.out (by repeat (first | (with_reducible first | exact HB.out | apply below_alloc | apply pw_below_drewN | apply below_drew1) | exact HB.out))) | (with_reducible refine Kd.C_alloc ?_ _) | (with_reducible refine Kd.C_drewN ?_ _) | (with_reducible refine Kd.C_drew ?_))); (case side2 => exact HC0.out); rintro e w12 ⟨rfl, hb⟩; refine ⟨_, rfl, ?_⟩; have n0_ := Aside0.mk (below_step (by repeat (first | (with_reducible first | exact HB.out | apply below_alloc | apply pw_below_drewN | apply below_drew1) | exact HB.out)) hb); clear HB; have HB := n0_; clear n0_; (try clear hb); (try clear hb2); (try clear hk); (try clear hi)) | ((with_reducible refine gate_callee (f := 14) rfl ?_); refine goesL_ (some 42) rfl rfl Try.func14 (by kernel_rfl) rfl #[.int .i64 t198, .int .i64 t199, .int .i64 t200, .int .i64 t201] rfl (by (try simp only [List.map_toArray, List.map_cons, List.map_nil]); first | done | rfl | (simp only [List.length_drop, List.length_take]; rfl)) ?_; (with_reducible refine (impl_MixOf.calls t198 t199 t200 t201 t202 t203 _ A8.out).mono ?_); rintro e w' ⟨rfl, ⟨nd, rfl⟩⟩; refine ⟨_, rfl, ?_⟩) | ((with_reducible refine gate_callee (f := 15) rfl ?_); refine goesL_ (some 50) rfl rfl Try.func15 (by kernel_rfl) rfl #[.int .i64 t198, .int .i64 t199, .int .i64 t200, .int .i64 t201] rfl (by (try simp only [List.map_toArray, List.map_cons, List.map_nil]); first | done | rfl | (simp only [List.length_drop, List.length_take]; rfl)) ?_; (with_reducible refine (spec_MixOf.calls t198 t199 t200 t201 t204 t205 _ A9.out).mono ?_); rintro e w' ⟨rfl, ⟨nd, rfl⟩⟩; refine ⟨_, rfl, ?_⟩))
    (try simp only [Act.put, List.setIfInBounds_toArray, List.set_cons_zero, List.set_cons_succ])
    go_cut [70] (fun v70 wc => ∃ (kq : Nat) (x70_9 : Bool), v70 = .bool x70_9 ∧ Aside0 (laws_FnRoots.j0 kq t193 t194 t195 t198 t199 t200 t201 t202 t203 x70_9 = some r) ∧ Aside0 (kq ≤ k) ∧ Aside0 (Below w.heap.size w wc))
    case first =>
      have H := HC10.out
      clear HC10
      by_cases c13 : t195 = t197
      · rw [if_pos c13] at H
        have c13b0 : (t195 == t197) = true := beq_iff_eq.mpr c13
        have c13b1 : (t195 != t197) = false := bne_eq_false_iff_eq.mpr c13
        clear c13
        (first | rw [c13b0] | (simp only [i64_w, i32_w]; rw [c13b0]) | skip)
        by_cases c14 : t194 = t196
        · rw [if_pos c14] at H
          have c14b0 : (t194 == t196) = true := beq_iff_eq.mpr c14
          have c14b1 : (t194 != t196) = false := bne_eq_false_iff_eq.mpr c14
          clear c14
          by_cases c15 : t203 = t205
          · rw [if_pos c15] at H
            have c15b0 : (t203 == t205) = true := beq_iff_eq.mpr c15
            have c15b1 : (t203 != t205) = false := bne_eq_false_iff_eq.mpr c15
            clear c15
            have H' := Aside0.mk H
            clear H
            go_wp2
            go_meet
            case rel => exact ⟨_, ((t202 != t204)), (by first | rfl | (simp; done) | (simp [*]; done)), H', ⟨by first | omega | exact Nat.le_refl _⟩, ⟨by repeat (first | (with_reducible first | exact HB.out | apply below_alloc | apply pw_below_drewN | apply below_drew1) | exact HB.out)⟩⟩
          · rw [if_neg c15] at H
            have c15b0 : (t203 == t205) = false := beq_eq_false_iff_ne.mpr c15
            have c15b1 : (t203 != t205) = true := bne_iff_ne.mpr c15
            have H' := Aside0.mk H
            clear H
            go_wp2
            go_meet
            case rel => exact ⟨_, (true), (by first | rfl | (simp; done) | (simp [*]; done)), H', ⟨by first | omega | exact Nat.le_refl _⟩, ⟨by repeat (first | (with_reducible first | exact HB.out | apply below_alloc | apply pw_below_drewN | apply below_drew1) | exact HB.out)⟩⟩
        · rw [if_neg c14] at H
          have c14b0 : (t194 == t196) = false := beq_eq_false_iff_ne.mpr c14
          have c14b1 : (t194 != t196) = true := bne_iff_ne.mpr c14
          have H' := Aside0.mk H
          clear H
          go_wp2
          go_meet
          case rel => exact ⟨_, (true), (by first | rfl | (simp; done) | (simp [*]; done)), H', ⟨by first | omega | exact Nat.le_refl _⟩, ⟨by repeat (first | (with_reducible first | exact HB.out | apply below_alloc | apply pw_below_drewN | apply below_drew1) | exact HB.out)⟩⟩
      · rw [if_neg c13] at H
        have c13b0 : (t195 == t197) = false := beq_eq_false_iff_ne.mpr c13
        have c13b1 : (t195 != t197) = true := bne_iff_ne.mpr c13
        (first | rw [c13b0] | (simp only [i64_w, i32_w]; rw [c13b0]) | skip)
        have H' := Aside0.mk H
        clear H
        go_wp2
        go_meet
        case rel => exact ⟨_, (true), (by first | rfl | (simp; done) | (simp [*]; done)), H', ⟨by first | omega | exact Nat.le_refl _⟩, ⟨by repeat (first | (with_reducible first | exact HB.out | apply below_alloc | apply pw_below_drewN | apply below_drew1) | exact HB.out)⟩⟩
    case rest =>
      clear HC10
      try clear c1
      try clear p2
      try clear c3
      try clear c9
      try clear c10
      try clear c11
      try clear c12
      try clear c13
      try clear c13b0
      try clear c13b1
      try clear c14
      try clear c14b0
      try clear c14b1
      try clear c15
      try clear c15b0
      try clear c15b1
      obtain ⟨kq, x70_9, rfl, HA, HJ9, HB⟩ := hcut
      cases kq with
      | zero => exact absurd HA.out (by simp [laws_FnRoots.j0])
      | succ kj9 =>
        have H := HA.out
        clear HA
        simp only [laws_FnRoots.j0] at H
        by_cases c16 : x70_9 = true
        · subst c16
          have H1 : (some false) = some r := by rw [if_pos rfl] at H; exact H
          clear H
          have H := H1
          clear H1
          obtain rfl := Option.some.inj H
          go_wp2
          go_ret
          exact ⟨by first | rfl | (simp [errW_none, errW_some] <;> rfl) | (simp [*, errW_none, errW_some] <;> rfl), by repeat (first | (with_reducible first | exact HB.out | apply below_alloc | apply pw_below_drewN | apply below_drew1) | exact HB.out)⟩
        · replace c16 := Bool.eq_false_iff.mpr c16
          subst c16
          have H1 : (if t203 = 0 then (if t202 < (mn t198 t199) then (some false) else (if t202 > (mx t198 t199) then (some false) else (if t200 = 0 then (if t202 = t198 then (if t200 = t201 then (if t202 = t199 then (if t195 = 0 then (if (wrap64 (t194 * t194)) ≤ t193 then (some (decide ((wrap64 ((wrap64 (t194 + 1)) * (wrap64 (t194 + 1)))) > t193))) else (some false)) else (some true)) else (some false)) else (if t195 = 0 then (if (wrap64 (t194 * t194)) ≤ t193 then (some (decide ((wrap64 ((wrap64 (t194 + 1)) * (wrap64 (t194 + 1)))) > t193))) else (some false)) else (some true))) else (some false)) else (if t200 = t201 then (if t202 = t199 then (if t195 = 0 then (if (wrap64 (t194 * t194)) ≤ t193 then (some (decide ((wrap64 ((wrap64 (t194 + 1)) * (wrap64 (t194 + 1)))) > t193))) else (some false)) else (some true)) else (some false)) else (if t195 = 0 then (if (wrap64 (t194 * t194)) ≤ t193 then (some (decide ((wrap64 ((wrap64 (t194 + 1)) * (wrap64 (t194 + 1)))) > t193))) else (some false)) else (some true)))))) else (if t195 = 0 then (if (wrap64 (t194 * t194)) ≤ t193 then (some (decide ((wrap64 ((wrap64 (t194 + 1)) * (wrap64 (t194 + 1)))) > t193))) else (some false)) else (some true))) = some r := by rw [if_neg (show ¬ (false = true) by decide)] at H; exact H
          clear H
          have H := H1
          clear H1
          by_cases c17 : t203 = 0
          · rw [if_pos c17] at H
            have c17b0 : (t203 == 0) = true := beq_iff_eq.mpr c17
            have c17b1 : (t203 != 0) = false := bne_eq_false_iff_eq.mpr c17
            clear c17
            obtain ⟨ji18, hji18⟩ : ∃ j_ : Int, (mn t198 t199) = j_ := ⟨_, rfl⟩
            replace H : (if t202 < (ji18) then (some false) else (if t202 > (mx t198 t199) then (some false) else (if t200 = 0 then (if t202 = t198 then (if t200 = t201 then (if t202 = t199 then (if t195 = 0 then (if (wrap64 (t194 * t194)) ≤ t193 then (some (decide ((wrap64 ((wrap64 (t194 + 1)) * (wrap64 (t194 + 1)))) > t193))) else (some false)) else (some true)) else (some false)) else (if t195 = 0 then (if (wrap64 (t194 * t194)) ≤ t193 then (some (decide ((wrap64 ((wrap64 (t194 + 1)) * (wrap64 (t194 + 1)))) > t193))) else (some false)) else (some true))) else (some false)) else (if t200 = t201 then (if t202 = t199 then (if t195 = 0 then (if (wrap64 (t194 * t194)) ≤ t193 then (some (decide ((wrap64 ((wrap64 (t194 + 1)) * (wrap64 (t194 + 1)))) > t193))) else (some false)) else (some true)) else (some false)) else (if t195 = 0 then (if (wrap64 (t194 * t194)) ≤ t193 then (some (decide ((wrap64 ((wrap64 (t194 + 1)) * (wrap64 (t194 + 1)))) > t193))) else (some false)) else (some true)))))) = some r := by first | (rw [hji18] at H; exact H) | (simp only [hji18] at H ⊢; exact H)
            have hji18_ : (if t199 < t198 then t199 else t198) = ji18 := hji18
            by_cases c19 : t202 < (ji18)
            · rw [if_pos c19] at H
              have c19b0 : decide (t202 < (ji18)) = true := decide_eq_true c19
              clear c19
              obtain rfl := Option.some.inj H
              go_wp2
              go_ret
              exact ⟨by first | rfl | (simp [errW_none, errW_some] <;> rfl) | (simp only [← hji18]; first | rfl | (simp [errW_none, errW_some] <;> rfl)) | (simp [*, errW_none, errW_some] <;> rfl), by repeat (first | (with_reducible first | exact HB.out | apply below_alloc | apply pw_below_drewN | apply below_drew1) | exact HB.out)⟩
            · rw [if_neg c19] at H
              have c19b0 : decide (t202 < (ji18)) = false := decide_eq_false c19
              clear c19
              obtain ⟨ji20, hji20⟩ : ∃ j_ : Int, (mx t198 t199) = j_ := ⟨_, rfl⟩
              replace H : (if t202 > (ji20) then (some false) else (if t200 = 0 then (if t202 = t198 then (if t200 = t201 then (if t202 = t199 then (if t195 = 0 then (if (wrap64 (t194 * t194)) ≤ t193 then (some (decide ((wrap64 ((wrap64 (t194 + 1)) * (wrap64 (t194 + 1)))) > t193))) else (some false)) else (some true)) else (some false)) else (if t195 = 0 then (if (wrap64 (t194 * t194)) ≤ t193 then (some (decide ((wrap64 ((wrap64 (t194 + 1)) * (wrap64 (t194 + 1)))) > t193))) else (some false)) else (some true))) else (some false)) else (if t200 = t201 then (if t202 = t199 then (if t195 = 0 then (if (wrap64 (t194 * t194)) ≤ t193 then (some (decide ((wrap64 ((wrap64 (t194 + 1)) * (wrap64 (t194 + 1)))) > t193))) else (some false)) else (some true)) else (some false)) else (if t195 = 0 then (if (wrap64 (t194 * t194)) ≤ t193 then (some (decide ((wrap64 ((wrap64 (t194 + 1)) * (wrap64 (t194 + 1)))) > t193))) else (some false)) else (some true))))) = some r := by first | (rw [hji20] at H; exact H) | (simp only [hji20] at H ⊢; exact H)
              have hji20_ : (if t198 < t199 then t199 else t198) = ji20 := hji20
              by_cases c21 : t202 > (ji20)
              · rw [if_pos c21] at H
                have c21b0 : decide ((ji20) < t202) = true := decide_eq_true c21
                clear c21
                obtain rfl := Option.some.inj H
                go_wp2
                go_ret
                exact ⟨by first | rfl | (simp [errW_none, errW_some] <;> rfl) | (simp only [← hji18, ← hji20]; first | rfl | (simp [errW_none, errW_some] <;> rfl)) | (simp [*, errW_none, errW_some] <;> rfl), by repeat (first | (with_reducible first | exact HB.out | apply below_alloc | apply pw_below_drewN | apply below_drew1) | exact HB.out)⟩
              · rw [if_neg c21] at H
                have c21b0 : decide ((ji20) < t202) = false := decide_eq_false c21
                clear c21
                by_cases c22 : t200 = 0
                · rw [if_pos c22] at H
                  have c22b0 : (t200 == 0) = true := beq_iff_eq.mpr c22
                  have c22b1 : (t200 != 0) = false := bne_eq_false_iff_eq.mpr c22
                  clear c22
                  by_cases c23 : t202 = t198
                  · rw [if_pos c23] at H
                    have c23b0 : (t202 == t198) = true := beq_iff_eq.mpr c23
                    have c23b1 : (t202 != t198) = false := bne_eq_false_iff_eq.mpr c23
                    clear c23
                    by_cases c24 : t200 = t201
                    · rw [if_pos c24] at H
                      have c24b0 : (t200 == t201) = true := beq_iff_eq.mpr c24
                      have c24b1 : (t200 != t201) = false := bne_eq_false_iff_eq.mpr c24
                      clear c24
                      by_cases c25 : t202 = t199
                      · rw [if_pos c25] at H
                        have c25b0 : (t202 == t199) = true := beq_iff_eq.mpr c25
                        have c25b1 : (t202 != t199) = false := bne_eq_false_iff_eq.mpr c25
                        clear c25
                        by_cases c26 : t195 = 0
                        · rw [if_pos c26] at H
                          have c26b0 : (t195 == 0) = true := beq_iff_eq.mpr c26
                          have c26b1 : (t195 != 0) = false := bne_eq_false_iff_eq.mpr c26
                          clear c26
                          by_cases c27 : (wrap64 (t194 * t194)) ≤ t193
                          · rw [if_pos c27] at H
                            have c27b0 : decide ((wrap64 (t194 * t194)) ≤ t193) = true := decide_eq_true c27
                            clear c27
                            obtain rfl := Option.some.inj H
                            go_wp2
                            go_ret
                            exact ⟨by first | rfl | (simp [errW_none, errW_some] <;> rfl) | (simp only [← hji18, ← hji20]; first | rfl | (simp [errW_none, errW_some] <;> rfl)) | (simp [*, errW_none, errW_some] <;> rfl), by repeat (first | (with_reducible first | exact HB.out | apply below_alloc | apply pw_below_drewN | apply below_drew1) | exact HB.out)⟩
                          · rw [if_neg c27] at H
                            have c27b0 : decide ((wrap64 (t194 * t194)) ≤ t193) = false := decide_eq_false c27
                            clear c27
                            obtain rfl := Option.some.inj H
                            go_wp2
                            go_ret
                            exact ⟨by first | rfl | (simp [errW_none, errW_some] <;> rfl) | (simp only [← hji18, ← hji20]; first | rfl | (simp [errW_none, errW_some] <;> rfl)) | (simp [*, errW_none, errW_some] <;> rfl), by repeat (first | (with_reducible first | exact HB.out | apply below_alloc | apply pw_below_drewN | apply below_drew1) | exact HB.out)⟩
                        · rw [if_neg c26] at H
                          have c26b0 : (t195 == 0) = false := beq_eq_false_iff_ne.mpr c26
                          have c26b1 : (t195 != 0) = true := bne_iff_ne.mpr c26
                          obtain rfl := Option.some.inj H
                          go_wp2
                          go_ret
                          exact ⟨by first | rfl | (simp [errW_none, errW_some] <;> rfl) | (simp only [← hji18, ← hji20]; first | rfl | (simp [errW_none, errW_some] <;> rfl)) | (simp [*, errW_none, errW_some] <;> rfl), by repeat (first | (with_reducible first | exact HB.out | apply below_alloc | apply pw_below_drewN | apply below_drew1) | exact HB.out)⟩
                      · rw [if_neg c25] at H
                        have c25b0 : (t202 == t199) = false := beq_eq_false_iff_ne.mpr c25
                        have c25b1 : (t202 != t199) = true := bne_iff_ne.mpr c25
                        obtain rfl := Option.some.inj H
                        go_wp2
                        go_ret
                        exact ⟨by first | rfl | (simp [errW_none, errW_some] <;> rfl) | (simp only [← hji18, ← hji20]; first | rfl | (simp [errW_none, errW_some] <;> rfl)) | (simp [*, errW_none, errW_some] <;> rfl), by repeat (first | (with_reducible first | exact HB.out | apply below_alloc | apply pw_below_drewN | apply below_drew1) | exact HB.out)⟩
                    · rw [if_neg c24] at H
                      have c24b0 : (t200 == t201) = false := beq_eq_false_iff_ne.mpr c24
                      have c24b1 : (t200 != t201) = true := bne_iff_ne.mpr c24
                      by_cases c28 : t195 = 0
                      · rw [if_pos c28] at H
                        have c28b0 : (t195 == 0) = true := beq_iff_eq.mpr c28
                        have c28b1 : (t195 != 0) = false := bne_eq_false_iff_eq.mpr c28
                        clear c28
                        by_cases c29 : (wrap64 (t194 * t194)) ≤ t193
                        · rw [if_pos c29] at H
                          have c29b0 : decide ((wrap64 (t194 * t194)) ≤ t193) = true := decide_eq_true c29
                          clear c29
                          obtain rfl := Option.some.inj H
                          go_wp2
                          go_ret
                          exact ⟨by first | rfl | (simp [errW_none, errW_some] <;> rfl) | (simp only [← hji18, ← hji20]; first | rfl | (simp [errW_none, errW_some] <;> rfl)) | (simp [*, errW_none, errW_some] <;> rfl), by repeat (first | (with_reducible first | exact HB.out | apply below_alloc | apply pw_below_drewN | apply below_drew1) | exact HB.out)⟩
                        · rw [if_neg c29] at H
                          have c29b0 : decide ((wrap64 (t194 * t194)) ≤ t193) = false := decide_eq_false c29
                          clear c29
                          obtain rfl := Option.some.inj H
                          go_wp2
                          go_ret
                          exact ⟨by first | rfl | (simp [errW_none, errW_some] <;> rfl) | (simp only [← hji18, ← hji20]; first | rfl | (simp [errW_none, errW_some] <;> rfl)) | (simp [*, errW_none, errW_some] <;> rfl), by repeat (first | (with_reducible first | exact HB.out | apply below_alloc | apply pw_below_drewN | apply below_drew1) | exact HB.out)⟩
                      · rw [if_neg c28] at H
                        have c28b0 : (t195 == 0) = false := beq_eq_false_iff_ne.mpr c28
                        have c28b1 : (t195 != 0) = true := bne_iff_ne.mpr c28
                        obtain rfl := Option.some.inj H
                        go_wp2
                        go_ret
                        exact ⟨by first | rfl | (simp [errW_none, errW_some] <;> rfl) | (simp only [← hji18, ← hji20]; first | rfl | (simp [errW_none, errW_some] <;> rfl)) | (simp [*, errW_none, errW_some] <;> rfl), by repeat (first | (with_reducible first | exact HB.out | apply below_alloc | apply pw_below_drewN | apply below_drew1) | exact HB.out)⟩
                  · rw [if_neg c23] at H
                    have c23b0 : (t202 == t198) = false := beq_eq_false_iff_ne.mpr c23
                    have c23b1 : (t202 != t198) = true := bne_iff_ne.mpr c23
                    obtain rfl := Option.some.inj H
                    go_wp2
                    go_ret
                    exact ⟨by first | rfl | (simp [errW_none, errW_some] <;> rfl) | (simp only [← hji18, ← hji20]; first | rfl | (simp [errW_none, errW_some] <;> rfl)) | (simp [*, errW_none, errW_some] <;> rfl), by repeat (first | (with_reducible first | exact HB.out | apply below_alloc | apply pw_below_drewN | apply below_drew1) | exact HB.out)⟩
                · rw [if_neg c22] at H
                  have c22b0 : (t200 == 0) = false := beq_eq_false_iff_ne.mpr c22
                  have c22b1 : (t200 != 0) = true := bne_iff_ne.mpr c22
                  by_cases c30 : t200 = t201
                  · rw [if_pos c30] at H
                    have c30b0 : (t200 == t201) = true := beq_iff_eq.mpr c30
                    have c30b1 : (t200 != t201) = false := bne_eq_false_iff_eq.mpr c30
                    clear c30
                    by_cases c31 : t202 = t199
                    · rw [if_pos c31] at H
                      have c31b0 : (t202 == t199) = true := beq_iff_eq.mpr c31
                      have c31b1 : (t202 != t199) = false := bne_eq_false_iff_eq.mpr c31
                      clear c31
                      by_cases c32 : t195 = 0
                      · rw [if_pos c32] at H
                        have c32b0 : (t195 == 0) = true := beq_iff_eq.mpr c32
                        have c32b1 : (t195 != 0) = false := bne_eq_false_iff_eq.mpr c32
                        clear c32
                        by_cases c33 : (wrap64 (t194 * t194)) ≤ t193
                        · rw [if_pos c33] at H
                          have c33b0 : decide ((wrap64 (t194 * t194)) ≤ t193) = true := decide_eq_true c33
                          clear c33
                          obtain rfl := Option.some.inj H
                          go_wp2
                          go_ret
                          exact ⟨by first | rfl | (simp [errW_none, errW_some] <;> rfl) | (simp only [← hji18, ← hji20]; first | rfl | (simp [errW_none, errW_some] <;> rfl)) | (simp [*, errW_none, errW_some] <;> rfl), by repeat (first | (with_reducible first | exact HB.out | apply below_alloc | apply pw_below_drewN | apply below_drew1) | exact HB.out)⟩
                        · rw [if_neg c33] at H
                          have c33b0 : decide ((wrap64 (t194 * t194)) ≤ t193) = false := decide_eq_false c33
                          clear c33
                          obtain rfl := Option.some.inj H
                          go_wp2
                          go_ret
                          exact ⟨by first | rfl | (simp [errW_none, errW_some] <;> rfl) | (simp only [← hji18, ← hji20]; first | rfl | (simp [errW_none, errW_some] <;> rfl)) | (simp [*, errW_none, errW_some] <;> rfl), by repeat (first | (with_reducible first | exact HB.out | apply below_alloc | apply pw_below_drewN | apply below_drew1) | exact HB.out)⟩
                      · rw [if_neg c32] at H
                        have c32b0 : (t195 == 0) = false := beq_eq_false_iff_ne.mpr c32
                        have c32b1 : (t195 != 0) = true := bne_iff_ne.mpr c32
                        obtain rfl := Option.some.inj H
                        go_wp2
                        go_ret
                        exact ⟨by first | rfl | (simp [errW_none, errW_some] <;> rfl) | (simp only [← hji18, ← hji20]; first | rfl | (simp [errW_none, errW_some] <;> rfl)) | (simp [*, errW_none, errW_some] <;> rfl), by repeat (first | (with_reducible first | exact HB.out | apply below_alloc | apply pw_below_drewN | apply below_drew1) | exact HB.out)⟩
                    · rw [if_neg c31] at H
                      have c31b0 : (t202 == t199) = false := beq_eq_false_iff_ne.mpr c31
                      have c31b1 : (t202 != t199) = true := bne_iff_ne.mpr c31
                      obtain rfl := Option.some.inj H
                      go_wp2
                      go_ret
                      exact ⟨by first | rfl | (simp [errW_none, errW_some] <;> rfl) | (simp only [← hji18, ← hji20]; first | rfl | (simp [errW_none, errW_some] <;> rfl)) | (simp [*, errW_none, errW_some] <;> rfl), by repeat (first | (with_reducible first | exact HB.out | apply below_alloc | apply pw_below_drewN | apply below_drew1) | exact HB.out)⟩
                  · rw [if_neg c30] at H
                    have c30b0 : (t200 == t201) = false := beq_eq_false_iff_ne.mpr c30
                    have c30b1 : (t200 != t201) = true := bne_iff_ne.mpr c30
                    by_cases c34 : t195 = 0
                    · rw [if_pos c34] at H
                      have c34b0 : (t195 == 0) = true := beq_iff_eq.mpr c34
                      have c34b1 : (t195 != 0) = false := bne_eq_false_iff_eq.mpr c34
                      clear c34
                      by_cases c35 : (wrap64 (t194 * t194)) ≤ t193
                      · rw [if_pos c35] at H
                        have c35b0 : decide ((wrap64 (t194 * t194)) ≤ t193) = true := decide_eq_true c35
                        clear c35
                        obtain rfl := Option.some.inj H
                        go_wp2
                        go_ret
                        exact ⟨by first | rfl | (simp [errW_none, errW_some] <;> rfl) | (simp only [← hji18, ← hji20]; first | rfl | (simp [errW_none, errW_some] <;> rfl)) | (simp [*, errW_none, errW_some] <;> rfl), by repeat (first | (with_reducible first | exact HB.out | apply below_alloc | apply pw_below_drewN | apply below_drew1) | exact HB.out)⟩
                      · rw [if_neg c35] at H
                        have c35b0 : decide ((wrap64 (t194 * t194)) ≤ t193) = false := decide_eq_false c35
                        clear c35
                        obtain rfl := Option.some.inj H
                        go_wp2
                        go_ret
                        exact ⟨by first | rfl | (simp [errW_none, errW_some] <;> rfl) | (simp only [← hji18, ← hji20]; first | rfl | (simp [errW_none, errW_some] <;> rfl)) | (simp [*, errW_none, errW_some] <;> rfl), by repeat (first | (with_reducible first | exact HB.out | apply below_alloc | apply pw_below_drewN | apply below_drew1) | exact HB.out)⟩
                    · rw [if_neg c34] at H
                      have c34b0 : (t195 == 0) = false := beq_eq_false_iff_ne.mpr c34
                      have c34b1 : (t195 != 0) = true := bne_iff_ne.mpr c34
                      obtain rfl := Option.some.inj H
                      go_wp2
                      go_ret
                      exact ⟨by first | rfl | (simp [errW_none, errW_some] <;> rfl) | (simp only [← hji18, ← hji20]; first | rfl | (simp [errW_none, errW_some] <;> rfl)) | (simp [*, errW_none, errW_some] <;> rfl), by repeat (first | (with_reducible first | exact HB.out | apply below_alloc | apply pw_below_drewN | apply below_drew1) | exact HB.out)⟩
          · rw [if_neg c17] at H
            have c17b0 : (t203 == 0) = false := beq_eq_false_iff_ne.mpr c17
            have c17b1 : (t203 != 0) = true := bne_iff_ne.mpr c17
            by_cases c36 : t195 = 0
            · rw [if_pos c36] at H
              have c36b0 : (t195 == 0) = true := beq_iff_eq.mpr c36
              have c36b1 : (t195 != 0) = false := bne_eq_false_iff_eq.mpr c36
              clear c36
              by_cases c37 : (wrap64 (t194 * t194)) ≤ t193
              · rw [if_pos c37] at H
                have c37b0 : decide ((wrap64 (t194 * t194)) ≤ t193) = true := decide_eq_true c37
                clear c37
                obtain rfl := Option.some.inj H
                go_wp2
                go_ret
                exact ⟨by first | rfl | (simp [errW_none, errW_some] <;> rfl) | (simp [*, errW_none, errW_some] <;> rfl), by repeat (first | (with_reducible first | exact HB.out | apply below_alloc | apply pw_below_drewN | apply below_drew1) | exact HB.out)⟩
              · rw [if_neg c37] at H
                have c37b0 : decide ((wrap64 (t194 * t194)) ≤ t193) = false := decide_eq_false c37
                clear c37
                obtain rfl := Option.some.inj H
                go_wp2
                go_ret
                exact ⟨by first | rfl | (simp [errW_none, errW_some] <;> rfl) | (simp [*, errW_none, errW_some] <;> rfl), by repeat (first | (with_reducible first | exact HB.out | apply below_alloc | apply pw_below_drewN | apply below_drew1) | exact HB.out)⟩
            · rw [if_neg c36] at H
              have c36b0 : (t195 == 0) = false := beq_eq_false_iff_ne.mpr c36
              have c36b1 : (t195 != 0) = true := bne_iff_ne.mpr c36
              obtain rfl := Option.some.inj H
              go_wp2
              go_ret
              exact ⟨by first | rfl | (simp [errW_none, errW_some] <;> rfl) | (simp [*, errW_none, errW_some] <;> rfl), by repeat (first | (with_reducible first | exact HB.out | apply below_alloc | apply pw_below_drewN | apply below_drew1) | exact HB.out)⟩

/-- THE ONE PURE STATEMENT of laws_FnRoots: yours. -/
def laws_FnRoots.Pure : Prop := ∀ (l0 : List Int), l0.length ≤ maxLen → l0.length * 1 ≤ 140737488351232 → (∀ x ∈ l0, (Lit.int .u8 x).wf = true) → ∃ k, laws_FnRoots.f k l0 = some true
theorem laws_FnRoots.walk (P : laws_FnRoots.Pure) (a0 : Option Addr) (len0 cap0 : Nat) (z0 : List Int) (w : World) (w0 : (a0 = none ∧ len0 = 0 ∧ cap0 = 0 ∧ z0 = []) ∨ ∃ x, a0 = some x ∧ len0 ≤ cap0 ∧ cap0 ≤ maxLen ∧ z0.length = cap0 ∧ (∀ i, i < z0.length → w.cell? (x.add i) = some (.int .u8 (z0.getD i 0))) ∧ ∀ n ∈ z0, (Lit.int .u8 n).wf = true) (y0 : len0 * 1 ≤ 140737488351232) :
    Calls Try.prog 3 #[.slice a0 len0 cap0] w fun e w' => e = .returned (.bool true) ∧ Below w.heap.size w w' := by
  obtain ⟨l0, rfl, hr0, hm0, hw0, hc0⟩ := ReadsInt.ofRowC w0
  obtain ⟨k, h⟩ := P l0 hm0 y0 hw0
  refine (laws_FnRoots.calls k _ _ l0 true w (Kd.C_of_reads (d := (0 : Int)) (h1 := fun _ => rfl) hr0) hc0 h).mono ?_
  rintro e w' ⟨rfl, hd⟩
  exact ⟨rfl, hd⟩

end Go.Proofs.Ytcnaocjhfgnphaa.PFnRoots
