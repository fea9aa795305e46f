-- The machine's side of the law FnAngles: functions and their walks, made by q.py out of the kit's own print.
import Derived.Test.YtcnaocjhfgnphaaQFnAnglesx0
import Derived.Test.YtcnaocjhfgnphaaQFnAnglesx1
import Derived.Test.YtcnaocjhfgnphaaQFnAnglesx2
namespace Go.Proofs.Ytcnaocjhfgnphaa.PFnAngles
open Go.RowKit Go.Proofs.YtcnaocjhfgnphaaW.PrintWords Go.Proofs.YtcnaocjhfgnphaaW.PrintLast Go.Proofs.YtcnaocjhfgnphaaW.PrintMore
attribute [local go_sem] max2_int min2_int max_two min_two max_three min_three max_four min_four   -- for this text's walks alone
set_option linter.unusedVariables false
set_option linter.unusedSimpArgs false

/-! ### laws_FnAngles: function 4 -/
mutual
def laws_FnAngles.j0 : Nat → Int → Int → Int → Int → Int → Int → Int → Int → Int → Bool → Option (Bool)
  | 0, _, _, _, _, _, _, _, _, _, _ => none
  | k + 1, x3, x4, x5, x6, x9, x10, x13, x14, x17, x113 => if x113 = true then (some false) else (if x6 = 0 then ((impl_TurnBetween.f x4 x3).bind fun bt220 => (if bt220.2 = 0 then (if x10 = 0 then (laws_FnAngles.j1 k x3 x5 x9 x13 x17 bt220.1 (x14 != 0)) else (laws_FnAngles.j1 k x3 x5 x9 x13 x17 bt220.1 true)) else (laws_FnAngles.j1 k x3 x5 x9 x13 x17 bt220.1 true))) else (some true))
def laws_FnAngles.j1 : Nat → Int → Int → Int → Int → Int → Int → Bool → Option (Bool)
  | 0, _, _, _, _, _, _, _ => none
  | k + 1, x3, x5, x9, x13, x17, x21, x131 => if x131 = true then (some false) else (if x5 = (-648000) then (if x21 = x5 then ((impl_TurnBetween.f x3 x17).bind fun bt222 => (if x9 ≥ 0 then (if x9 < 1296000 then (if x13 ≥ (-648000) then (if x13 < 648000 then (if (Int.tmod (wrap64 (x9 - x13)) 1296000) = 0 then (if bt222.2 = 0 then (if (wrap64 (2 * bt222.1)) = x5 then (some true) else (some ((wrap64 (2 * bt222.1)) == (wrap64 (x5 - 1))))) else (some false)) else (some false)) else (some false)) else (some false)) else (some false)) else (some false))) else (some false)) else (if x21 = (wrap64 (-x5)) then ((impl_TurnBetween.f x3 x17).bind fun bt224 => (if x9 ≥ 0 then (if x9 < 1296000 then (if x13 ≥ (-648000) then (if x13 < 648000 then (if (Int.tmod (wrap64 (x9 - x13)) 1296000) = 0 then (if bt224.2 = 0 then (if (wrap64 (2 * bt224.1)) = x5 then (some true) else (some ((wrap64 (2 * bt224.1)) == (wrap64 (x5 - 1))))) else (some false)) else (some false)) else (some false)) else (some false)) else (some false)) else (some false))) else (some false)))
end
def laws_FnAngles.f (k : Nat) (l0 : List Int) : Option (Bool) := (laws_big.f l0).bind fun t201 => (if t201 = true then (some true) else ((spec_DrawTurnBetween.f k l0).bind fun bt202 => ((impl_TurnBetween.f bt202.1 bt202.2).bind fun bt204 => ((spec_TurnBetween.f bt202.1 bt202.2).bind fun bt206 => ((impl_PlainAngle.f bt202.1).bind fun bt208 => ((spec_PlainAngle.f bt202.1).bind fun bt210 => ((impl_SignedAngle.f bt202.1).bind fun bt212 => ((spec_SignedAngle.f bt202.1).bind fun bt214 => ((impl_MeanAngle.f k bt202.1 bt202.2).bind fun bt216 => ((spec_MeanAngle.f k bt202.1 bt202.2).bind fun bt218 => (if bt204.2 = bt206.2 then (if bt204.1 = bt206.1 then (if bt208.2 = bt210.2 then (if bt208.1 = bt210.1 then (if bt212.2 = bt214.2 then (if bt212.1 = bt214.1 then (if bt216.2 = bt218.2 then (laws_FnAngles.j0 k bt202.1 bt202.2 bt204.1 bt204.2 bt208.1 bt208.2 bt212.1 bt212.2 bt216.1 (bt216.1 != bt218.1)) else (laws_FnAngles.j0 k bt202.1 bt202.2 bt204.1 bt204.2 bt208.1 bt208.2 bt212.1 bt212.2 bt216.1 true)) else (laws_FnAngles.j0 k bt202.1 bt202.2 bt204.1 bt204.2 bt208.1 bt208.2 bt212.1 bt212.2 bt216.1 true)) else (laws_FnAngles.j0 k bt202.1 bt202.2 bt204.1 bt204.2 bt208.1 bt208.2 bt212.1 bt212.2 bt216.1 true)) else (laws_FnAngles.j0 k bt202.1 bt202.2 bt204.1 bt204.2 bt208.1 bt208.2 bt212.1 bt212.2 bt216.1 true)) else (laws_FnAngles.j0 k bt202.1 bt202.2 bt204.1 bt204.2 bt208.1 bt208.2 bt212.1 bt212.2 bt216.1 true)) else (laws_FnAngles.j0 k bt202.1 bt202.2 bt204.1 bt204.2 bt208.1 bt208.2 bt212.1 bt212.2 bt216.1 true)) else (laws_FnAngles.j0 k bt202.1 bt202.2 bt204.1 bt204.2 bt208.1 bt208.2 bt212.1 bt212.2 bt216.1 true))))))))))))
theorem laws_FnAngles.mono_l : ∀ k, (∀ y0 y1 y2 y3 y4 y5 y6 y7 y8 y9, LeO (laws_FnAngles.j0 k y0 y1 y2 y3 y4 y5 y6 y7 y8 y9) (laws_FnAngles.j0 (k + 1) y0 y1 y2 y3 y4 y5 y6 y7 y8 y9)) ∧ (∀ y0 y1 y2 y3 y4 y5 y6, LeO (laws_FnAngles.j1 k y0 y1 y2 y3 y4 y5 y6) (laws_FnAngles.j1 (k + 1) y0 y1 y2 y3 y4 y5 y6))
  | 0 => ⟨fun _ _ _ _ _ _ _ _ _ _ r h => by simp [laws_FnAngles.j0] at h, fun _ _ _ _ _ _ _ r h => by simp [laws_FnAngles.j1] at h⟩
  | k + 1 => by
    obtain ⟨ih0, ih1⟩ := laws_FnAngles.mono_l k
    refine ⟨?_, ?_⟩
    · intro y0 y1 y2 y3 y4 y5 y6 y7 y8 y9
      unfold laws_FnAngles.j0
      repeat' first
      | (with_reducible exact ih0 _ _ _ _ _ _ _ _ _ _)
      | (with_reducible exact ih1 _ _ _ _ _ _ _)
      | (with_reducible exact impl_MeanAngle.mono _ _ _)
      | (with_reducible exact spec_DrawTurnBetween.mono _ _)
      | (with_reducible exact spec_MeanAngle.mono _ _ _)
      | (with_reducible exact LeO.refl _)
      | (with_reducible exact LeO.none _)
      | (with_reducible refine LeO.ite ?_ ?_)
      | (with_reducible refine LeO.bind ?_ (fun _ => ?_))
      | exact ih0 _ _ _ _ _ _ _ _ _ _
      | exact ih1 _ _ _ _ _ _ _
      | exact impl_MeanAngle.mono _ _ _
      | exact spec_DrawTurnBetween.mono _ _
      | exact spec_MeanAngle.mono _ _ _
      | exact LeO.none _
      | refine LeO.ite ?_ ?_
      | refine LeO.bind ?_ (fun _ => ?_)
    · intro y0 y1 y2 y3 y4 y5 y6
      unfold laws_FnAngles.j1
      repeat' first
      | (with_reducible exact ih0 _ _ _ _ _ _ _ _ _ _)
      | (with_reducible exact ih1 _ _ _ _ _ _ _)
      | (with_reducible exact impl_MeanAngle.mono _ _ _)
      | (with_reducible exact spec_DrawTurnBetween.mono _ _)
      | (with_reducible exact spec_MeanAngle.mono _ _ _)
      | (with_reducible exact LeO.refl _)
      | (with_reducible exact LeO.none _)
      | (with_reducible refine LeO.ite ?_ ?_)
      | (with_reducible refine LeO.bind ?_ (fun _ => ?_))
      | exact ih0 _ _ _ _ _ _ _ _ _ _
      | exact ih1 _ _ _ _ _ _ _
      | exact impl_MeanAngle.mono _ _ _
      | exact spec_DrawTurnBetween.mono _ _
      | exact spec_MeanAngle.mono _ _ _
      | exact LeO.none _
      | refine LeO.ite ?_ ?_
      | refine LeO.bind ?_ (fun _ => ?_)
theorem laws_FnAngles.mono : ∀ a0 k, LeO (laws_FnAngles.f k a0) (laws_FnAngles.f (k + 1) a0) := by
  intro a0 k
  obtain ⟨ih0, ih1⟩ := laws_FnAngles.mono_l k
  unfold laws_FnAngles.f
  repeat' first
      | (with_reducible exact ih0 _ _ _ _ _ _ _ _ _ _)
      | (with_reducible exact ih1 _ _ _ _ _ _ _)
      | (with_reducible exact impl_MeanAngle.mono _ _ _)
      | (with_reducible exact spec_DrawTurnBetween.mono _ _)
      | (with_reducible exact spec_MeanAngle.mono _ _ _)
      | (with_reducible exact LeO.refl _)
      | (with_reducible exact LeO.none _)
      | (with_reducible refine LeO.ite ?_ ?_)
      | (with_reducible refine LeO.bind ?_ (fun _ => ?_))
      | exact ih0 _ _ _ _ _ _ _ _ _ _
      | exact ih1 _ _ _ _ _ _ _
      | exact impl_MeanAngle.mono _ _ _
      | exact spec_DrawTurnBetween.mono _ _
      | exact spec_MeanAngle.mono _ _ _
      | exact LeO.none _
      | refine LeO.ite ?_ ?_
      | refine LeO.bind ?_ (fun _ => ?_)
set_option maxHeartbeats 8000000 in
set_option maxRecDepth 100000 in
theorem laws_FnAngles.calls (k : Nat) (A0 : Option Addr) (c0 : Nat) (l0 : List Int) (r : Bool) (w : World) (hr0 : Kd.C (Kd.int .u8) w A0 l0.length l0) (hc0 : l0.length ≤ c0) (h : laws_FnAngles.f k l0 = some r) :
    Calls Try.prog 4 #[.slice A0 l0.length c0] w fun e w' => e = .returned (.bool r) ∧ Below w.heap.size w w' := by
  have HR0 := Aside0.mk hr0
  have HC0 := Aside0.mk hc0
  clear hr0 hc0
  have HB := Aside0.mk (Below.refl w.heap.size w)
  have H : ((laws_big.f l0).bind fun t201 => (if t201 = true then (some true) else ((spec_DrawTurnBetween.f k l0).bind fun bt202 => ((impl_TurnBetween.f bt202.1 bt202.2).bind fun bt204 => ((spec_TurnBetween.f bt202.1 bt202.2).bind fun bt206 => ((impl_PlainAngle.f bt202.1).bind fun bt208 => ((spec_PlainAngle.f bt202.1).bind fun bt210 => ((impl_SignedAngle.f bt202.1).bind fun bt212 => ((spec_SignedAngle.f bt202.1).bind fun bt214 => ((impl_MeanAngle.f k bt202.1 bt202.2).bind fun bt216 => ((spec_MeanAngle.f k bt202.1 bt202.2).bind fun bt218 => (if bt204.2 = bt206.2 then (if bt204.1 = bt206.1 then (if bt208.2 = bt210.2 then (if bt208.1 = bt210.1 then (if bt212.2 = bt214.2 then (if bt212.1 = bt214.1 then (if bt216.2 = bt218.2 then (laws_FnAngles.j0 k bt202.1 bt202.2 bt204.1 bt204.2 bt208.1 bt208.2 bt212.1 bt212.2 bt216.1 (bt216.1 != bt218.1)) else (laws_FnAngles.j0 k bt202.1 bt202.2 bt204.1 bt204.2 bt208.1 bt208.2 bt212.1 bt212.2 bt216.1 true)) else (laws_FnAngles.j0 k bt202.1 bt202.2 bt204.1 bt204.2 bt208.1 bt208.2 bt212.1 bt212.2 bt216.1 true)) else (laws_FnAngles.j0 k bt202.1 bt202.2 bt204.1 bt204.2 bt208.1 bt208.2 bt212.1 bt212.2 bt216.1 true)) else (laws_FnAngles.j0 k bt202.1 bt202.2 bt204.1 bt204.2 bt208.1 bt208.2 bt212.1 bt212.2 bt216.1 true)) else (laws_FnAngles.j0 k bt202.1 bt202.2 bt204.1 bt204.2 bt208.1 bt208.2 bt212.1 bt212.2 bt216.1 true)) else (laws_FnAngles.j0 k bt202.1 bt202.2 bt204.1 bt204.2 bt208.1 bt208.2 bt212.1 bt212.2 bt216.1 true)) else (laws_FnAngles.j0 k bt202.1 bt202.2 bt204.1 bt204.2 bt208.1 bt208.2 bt212.1 bt212.2 bt216.1 true))))))))))))) = some r := h
  clear h
  replace H := Option.bind_eq_some_iff.mp H
  obtain ⟨t201, A20, H⟩ := H
  replace H : (if t201 = true then (some true) else ((spec_DrawTurnBetween.f k l0).bind fun bt202 => ((impl_TurnBetween.f bt202.1 bt202.2).bind fun bt204 => ((spec_TurnBetween.f bt202.1 bt202.2).bind fun bt206 => ((impl_PlainAngle.f bt202.1).bind fun bt208 => ((spec_PlainAngle.f bt202.1).bind fun bt210 => ((impl_SignedAngle.f bt202.1).bind fun bt212 => ((spec_SignedAngle.f bt202.1).bind fun bt214 => ((impl_MeanAngle.f k bt202.1 bt202.2).bind fun bt216 => ((spec_MeanAngle.f k bt202.1 bt202.2).bind fun bt218 => (if bt204.2 = bt206.2 then (if bt204.1 = bt206.1 then (if bt208.2 = bt210.2 then (if bt208.1 = bt210.1 then (if bt212.2 = bt214.2 then (if bt212.1 = bt214.1 then (if bt216.2 = bt218.2 then (laws_FnAngles.j0 k bt202.1 bt202.2 bt204.1 bt204.2 bt208.1 bt208.2 bt212.1 bt212.2 bt216.1 (bt216.1 != bt218.1)) else (laws_FnAngles.j0 k bt202.1 bt202.2 bt204.1 bt204.2 bt208.1 bt208.2 bt212.1 bt212.2 bt216.1 true)) else (laws_FnAngles.j0 k bt202.1 bt202.2 bt204.1 bt204.2 bt208.1 bt208.2 bt212.1 bt212.2 bt216.1 true)) else (laws_FnAngles.j0 k bt202.1 bt202.2 bt204.1 bt204.2 bt208.1 bt208.2 bt212.1 bt212.2 bt216.1 true)) else (laws_FnAngles.j0 k bt202.1 bt202.2 bt204.1 bt204.2 bt208.1 bt208.2 bt212.1 bt212.2 bt216.1 true)) else (laws_FnAngles.j0 k bt202.1 bt202.2 bt204.1 bt204.2 bt208.1 bt208.2 bt212.1 bt212.2 bt216.1 true)) else (laws_FnAngles.j0 k bt202.1 bt202.2 bt204.1 bt204.2 bt208.1 bt208.2 bt212.1 bt212.2 bt216.1 true)) else (laws_FnAngles.j0 k bt202.1 bt202.2 bt204.1 bt204.2 bt208.1 bt208.2 bt212.1 bt212.2 bt216.1 true)))))))))))) = some r := H
  have A2 := Aside0.mk A20
  clear A20
  by_cases c3 : t201 = true
  · subst c3
    have H1 : (some true) = some r := by rw [if_pos rfl] at H; exact H
    clear H
    have H := H1
    clear H1
    obtain rfl := Option.some.inj H
    go_enter Try.func4, Try.ntmps4
    go_wp2_with (first | ((with_reducible refine gate_callee (f := 9) rfl ?_); refine goesL_ (some 26) rfl rfl Try.func9 (by kernel_rfl) rfl #[.slice A0 l0.length c0] rfl (by (try simp only [List.map_toArray, List.map_cons, List.map_nil]); first | done | rfl | (simp only [List.length_drop, List.length_take]; rfl)) ?_; (with_reducible refine (laws_big.calls _ _ l0 true _ ?side1 ?side2 A2.out).mono ?_); (case side1 => repeat (first | exact HR0.out | (with_reducible refine Kd.C_alloc ?_ _) | (with_reducible refine Kd.C_drewN ?_ _) | (with_reducible refine Kd.C_drew ?_))); (case side2 => exact HC0.out); rintro e w' ⟨rfl, ⟨nd, rfl⟩⟩; refine ⟨_, rfl, ?_⟩))
    go_ret
    exact ⟨by first | rfl | (simp [errW_none, errW_some] <;> rfl) | (simp [*, errW_none, errW_some] <;> rfl), by repeat (first | (with_reducible first | exact HB.out | apply below_alloc | apply pw_below_drewN | apply below_drew1) | exact HB.out)⟩
  · replace c3 := Bool.eq_false_iff.mpr c3
    subst c3
    have H1 : ((spec_DrawTurnBetween.f k l0).bind fun bt202 => ((impl_TurnBetween.f bt202.1 bt202.2).bind fun bt204 => ((spec_TurnBetween.f bt202.1 bt202.2).bind fun bt206 => ((impl_PlainAngle.f bt202.1).bind fun bt208 => ((spec_PlainAngle.f bt202.1).bind fun bt210 => ((impl_SignedAngle.f bt202.1).bind fun bt212 => ((spec_SignedAngle.f bt202.1).bind fun bt214 => ((impl_MeanAngle.f k bt202.1 bt202.2).bind fun bt216 => ((spec_MeanAngle.f k bt202.1 bt202.2).bind fun bt218 => (if bt204.2 = bt206.2 then (if bt204.1 = bt206.1 then (if bt208.2 = bt210.2 then (if bt208.1 = bt210.1 then (if bt212.2 = bt214.2 then (if bt212.1 = bt214.1 then (if bt216.2 = bt218.2 then (laws_FnAngles.j0 k bt202.1 bt202.2 bt204.1 bt204.2 bt208.1 bt208.2 bt212.1 bt212.2 bt216.1 (bt216.1 != bt218.1)) else (laws_FnAngles.j0 k bt202.1 bt202.2 bt204.1 bt204.2 bt208.1 bt208.2 bt212.1 bt212.2 bt216.1 true)) else (laws_FnAngles.j0 k bt202.1 bt202.2 bt204.1 bt204.2 bt208.1 bt208.2 bt212.1 bt212.2 bt216.1 true)) else (laws_FnAngles.j0 k bt202.1 bt202.2 bt204.1 bt204.2 bt208.1 bt208.2 bt212.1 bt212.2 bt216.1 true)) else (laws_FnAngles.j0 k bt202.1 bt202.2 bt204.1 bt204.2 bt208.1 bt208.2 bt212.1 bt212.2 bt216.1 true)) else (laws_FnAngles.j0 k bt202.1 bt202.2 bt204.1 bt204.2 bt208.1 bt208.2 bt212.1 bt212.2 bt216.1 true)) else (laws_FnAngles.j0 k bt202.1 bt202.2 bt204.1 bt204.2 bt208.1 bt208.2 bt212.1 bt212.2 bt216.1 true)) else (laws_FnAngles.j0 k bt202.1 bt202.2 bt204.1 bt204.2 bt208.1 bt208.2 bt212.1 bt212.2 bt216.1 true))))))))))) = some r := by rw [if_neg (show ¬ (false = true) by decide)] at H; exact H
    clear H
    have H := H1
    clear H1
    replace H := Option.bind_eq_some_iff.mp H
    obtain ⟨⟨t202, t203⟩, A40, H⟩ := H
    replace H : ((impl_TurnBetween.f t202 t203).bind fun bt204 => ((spec_TurnBetween.f t202 t203).bind fun bt206 => ((impl_PlainAngle.f t202).bind fun bt208 => ((spec_PlainAngle.f t202).bind fun bt210 => ((impl_SignedAngle.f t202).bind fun bt212 => ((spec_SignedAngle.f t202).bind fun bt214 => ((impl_MeanAngle.f k t202 t203).bind fun bt216 => ((spec_MeanAngle.f k t202 t203).bind fun bt218 => (if bt204.2 = bt206.2 then (if bt204.1 = bt206.1 then (if bt208.2 = bt210.2 then (if bt208.1 = bt210.1 then (if bt212.2 = bt214.2 then (if bt212.1 = bt214.1 then (if bt216.2 = bt218.2 then (laws_FnAngles.j0 k t202 t203 bt204.1 bt204.2 bt208.1 bt208.2 bt212.1 bt212.2 bt216.1 (bt216.1 != bt218.1)) else (laws_FnAngles.j0 k t202 t203 bt204.1 bt204.2 bt208.1 bt208.2 bt212.1 bt212.2 bt216.1 true)) else (laws_FnAngles.j0 k t202 t203 bt204.1 bt204.2 bt208.1 bt208.2 bt212.1 bt212.2 bt216.1 true)) else (laws_FnAngles.j0 k t202 t203 bt204.1 bt204.2 bt208.1 bt208.2 bt212.1 bt212.2 bt216.1 true)) else (laws_FnAngles.j0 k t202 t203 bt204.1 bt204.2 bt208.1 bt208.2 bt212.1 bt212.2 bt216.1 true)) else (laws_FnAngles.j0 k t202 t203 bt204.1 bt204.2 bt208.1 bt208.2 bt212.1 bt212.2 bt216.1 true)) else (laws_FnAngles.j0 k t202 t203 bt204.1 bt204.2 bt208.1 bt208.2 bt212.1 bt212.2 bt216.1 true)) else (laws_FnAngles.j0 k t202 t203 bt204.1 bt204.2 bt208.1 bt208.2 bt212.1 bt212.2 bt216.1 true)))))))))) = some r := H
    have A4 := Aside0.mk A40
    clear A40
    replace H := Option.bind_eq_some_iff.mp H
    obtain ⟨⟨t204, t205⟩, A50, H⟩ := H
    replace H : ((spec_TurnBetween.f t202 t203).bind fun bt206 => ((impl_PlainAngle.f t202).bind fun bt208 => ((spec_PlainAngle.f t202).bind fun bt210 => ((impl_SignedAngle.f t202).bind fun bt212 => ((spec_SignedAngle.f t202).bind fun bt214 => ((impl_MeanAngle.f k t202 t203).bind fun bt216 => ((spec_MeanAngle.f k t202 t203).bind fun bt218 => (if t205 = bt206.2 then (if t204 = bt206.1 then (if bt208.2 = bt210.2 then (if bt208.1 = bt210.1 then (if bt212.2 = bt214.2 then (if bt212.1 = bt214.1 then (if bt216.2 = bt218.2 then (laws_FnAngles.j0 k t202 t203 t204 t205 bt208.1 bt208.2 bt212.1 bt212.2 bt216.1 (bt216.1 != bt218.1)) else (laws_FnAngles.j0 k t202 t203 t204 t205 bt208.1 bt208.2 bt212.1 bt212.2 bt216.1 true)) else (laws_FnAngles.j0 k t202 t203 t204 t205 bt208.1 bt208.2 bt212.1 bt212.2 bt216.1 true)) else (laws_FnAngles.j0 k t202 t203 t204 t205 bt208.1 bt208.2 bt212.1 bt212.2 bt216.1 true)) else (laws_FnAngles.j0 k t202 t203 t204 t205 bt208.1 bt208.2 bt212.1 bt212.2 bt216.1 true)) else (laws_FnAngles.j0 k t202 t203 t204 t205 bt208.1 bt208.2 bt212.1 bt212.2 bt216.1 true)) else (laws_FnAngles.j0 k t202 t203 t204 t205 bt208.1 bt208.2 bt212.1 bt212.2 bt216.1 true)) else (laws_FnAngles.j0 k t202 t203 t204 t205 bt208.1 bt208.2 bt212.1 bt212.2 bt216.1 true))))))))) = some r := H
    have A5 := Aside0.mk A50
    clear A50
    replace H := Option.bind_eq_some_iff.mp H
    obtain ⟨⟨t206, t207⟩, A60, H⟩ := H
    replace H : ((impl_PlainAngle.f t202).bind fun bt208 => ((spec_PlainAngle.f t202).bind fun bt210 => ((impl_SignedAngle.f t202).bind fun bt212 => ((spec_SignedAngle.f t202).bind fun bt214 => ((impl_MeanAngle.f k t202 t203).bind fun bt216 => ((spec_MeanAngle.f k t202 t203).bind fun bt218 => (if t205 = t207 then (if t204 = t206 then (if bt208.2 = bt210.2 then (if bt208.1 = bt210.1 then (if bt212.2 = bt214.2 then (if bt212.1 = bt214.1 then (if bt216.2 = bt218.2 then (laws_FnAngles.j0 k t202 t203 t204 t205 bt208.1 bt208.2 bt212.1 bt212.2 bt216.1 (bt216.1 != bt218.1)) else (laws_FnAngles.j0 k t202 t203 t204 t205 bt208.1 bt208.2 bt212.1 bt212.2 bt216.1 true)) else (laws_FnAngles.j0 k t202 t203 t204 t205 bt208.1 bt208.2 bt212.1 bt212.2 bt216.1 true)) else (laws_FnAngles.j0 k t202 t203 t204 t205 bt208.1 bt208.2 bt212.1 bt212.2 bt216.1 true)) else (laws_FnAngles.j0 k t202 t203 t204 t205 bt208.1 bt208.2 bt212.1 bt212.2 bt216.1 true)) else (laws_FnAngles.j0 k t202 t203 t204 t205 bt208.1 bt208.2 bt212.1 bt212.2 bt216.1 true)) else (laws_FnAngles.j0 k t202 t203 t204 t205 bt208.1 bt208.2 bt212.1 bt212.2 bt216.1 true)) else (laws_FnAngles.j0 k t202 t203 t204 t205 bt208.1 bt208.2 bt212.1 bt212.2 bt216.1 true)))))))) = some r := H
    have A6 := Aside0.mk A60
    clear A60
    replace H := Option.bind_eq_some_iff.mp H
    obtain ⟨⟨t208, t209⟩, A70, H⟩ := H
    replace H : ((spec_PlainAngle.f t202).bind fun bt210 => ((impl_SignedAngle.f t202).bind fun bt212 => ((spec_SignedAngle.f t202).bind fun bt214 => ((impl_MeanAngle.f k t202 t203).bind fun bt216 => ((spec_MeanAngle.f k t202 t203).bind fun bt218 => (if t205 = t207 then (if t204 = t206 then (if t209 = bt210.2 then (if t208 = bt210.1 then (if bt212.2 = bt214.2 then (if bt212.1 = bt214.1 then (if bt216.2 = bt218.2 then (laws_FnAngles.j0 k t202 t203 t204 t205 t208 t209 bt212.1 bt212.2 bt216.1 (bt216.1 != bt218.1)) else (laws_FnAngles.j0 k t202 t203 t204 t205 t208 t209 bt212.1 bt212.2 bt216.1 true)) else (laws_FnAngles.j0 k t202 t203 t204 t205 t208 t209 bt212.1 bt212.2 bt216.1 true)) else (laws_FnAngles.j0 k t202 t203 t204 t205 t208 t209 bt212.1 bt212.2 bt216.1 true)) else (laws_FnAngles.j0 k t202 t203 t204 t205 t208 t209 bt212.1 bt212.2 bt216.1 true)) else (laws_FnAngles.j0 k t202 t203 t204 t205 t208 t209 bt212.1 bt212.2 bt216.1 true)) else (laws_FnAngles.j0 k t202 t203 t204 t205 t208 t209 bt212.1 bt212.2 bt216.1 true)) else (laws_FnAngles.j0 k t202 t203 t204 t205 t208 t209 bt212.1 bt212.2 bt216.1 true))))))) = some r := H
    have A7 := Aside0.mk A70
    clear A70
    replace H := Option.bind_eq_some_iff.mp H
    obtain ⟨⟨t210, t211⟩, A80, H⟩ := H
    replace H : ((impl_SignedAngle.f t202).bind fun bt212 => ((spec_SignedAngle.f t202).bind fun bt214 => ((impl_MeanAngle.f k t202 t203).bind fun bt216 => ((spec_MeanAngle.f k t202 t203).bind fun bt218 => (if t205 = t207 then (if t204 = t206 then (if t209 = t211 then (if t208 = t210 then (if bt212.2 = bt214.2 then (if bt212.1 = bt214.1 then (if bt216.2 = bt218.2 then (laws_FnAngles.j0 k t202 t203 t204 t205 t208 t209 bt212.1 bt212.2 bt216.1 (bt216.1 != bt218.1)) else (laws_FnAngles.j0 k t202 t203 t204 t205 t208 t209 bt212.1 bt212.2 bt216.1 true)) else (laws_FnAngles.j0 k t202 t203 t204 t205 t208 t209 bt212.1 bt212.2 bt216.1 true)) else (laws_FnAngles.j0 k t202 t203 t204 t205 t208 t209 bt212.1 bt212.2 bt216.1 true)) else (laws_FnAngles.j0 k t202 t203 t204 t205 t208 t209 bt212.1 bt212.2 bt216.1 true)) else (laws_FnAngles.j0 k t202 t203 t204 t205 t208 t209 bt212.1 bt212.2 bt216.1 true)) else (laws_FnAngles.j0 k t202 t203 t204 t205 t208 t209 bt212.1 bt212.2 bt216.1 true)) else (laws_FnAngles.j0 k t202 t203 t204 t205 t208 t209 bt212.1 bt212.2 bt216.1 true)))))) = some r := H
    have A8 := Aside0.mk A80
    clear A80
    replace H := Option.bind_eq_some_iff.mp H
    obtain ⟨⟨t212, t213⟩, A90, H⟩ := H
    replace H : ((spec_SignedAngle.f t202).bind fun bt214 => ((impl_MeanAngle.f k t202 t203).bind fun bt216 => ((spec_MeanAngle.f k t202 t203).bind fun bt218 => (if t205 = t207 then (if t204 = t206 then (if t209 = t211 then (if t208 = t210 then (if t213 = bt214.2 then (if t212 = bt214.1 then (if bt216.2 = bt218.2 then (laws_FnAngles.j0 k t202 t203 t204 t205 t208 t209 t212 t213 bt216.1 (bt216.1 != bt218.1)) else (laws_FnAngles.j0 k t202 t203 t204 t205 t208 t209 t212 t213 bt216.1 true)) else (laws_FnAngles.j0 k t202 t203 t204 t205 t208 t209 t212 t213 bt216.1 true)) else (laws_FnAngles.j0 k t202 t203 t204 t205 t208 t209 t212 t213 bt216.1 true)) else (laws_FnAngles.j0 k t202 t203 t204 t205 t208 t209 t212 t213 bt216.1 true)) else (laws_FnAngles.j0 k t202 t203 t204 t205 t208 t209 t212 t213 bt216.1 true)) else (laws_FnAngles.j0 k t202 t203 t204 t205 t208 t209 t212 t213 bt216.1 true)) else (laws_FnAngles.j0 k t202 t203 t204 t205 t208 t209 t212 t213 bt216.1 true))))) = some r := H
    have A9 := Aside0.mk A90
    clear A90
    replace H := Option.bind_eq_some_iff.mp H
    obtain ⟨⟨t214, t215⟩, A100, H⟩ := H
    replace H : ((impl_MeanAngle.f k t202 t203).bind fun bt216 => ((spec_MeanAngle.f k t202 t203).bind fun bt218 => (if t205 = t207 then (if t204 = t206 then (if t209 = t211 then (if t208 = t210 then (if t213 = t215 then (if t212 = t214 then (if bt216.2 = bt218.2 then (laws_FnAngles.j0 k t202 t203 t204 t205 t208 t209 t212 t213 bt216.1 (bt216.1 != bt218.1)) else (laws_FnAngles.j0 k t202 t203 t204 t205 t208 t209 t212 t213 bt216.1 true)) else (laws_FnAngles.j0 k t202 t203 t204 t205 t208 t209 t212 t213 bt216.1 true)) else (laws_FnAngles.j0 k t202 t203 t204 t205 t208 t209 t212 t213 bt216.1 true)) else (laws_FnAngles.j0 k t202 t203 t204 t205 t208 t209 t212 t213 bt216.1 true)) else (laws_FnAngles.j0 k t202 t203 t204 t205 t208 t209 t212 t213 bt216.1 true)) else (laws_FnAngles.j0 k t202 t203 t204 t205 t208 t209 t212 t213 bt216.1 true)) else (laws_FnAngles.j0 k t202 t203 t204 t205 t208 t209 t212 t213 bt216.1 true)))) = some r := H
    have A10 := Aside0.mk A100
    clear A100
    replace H := Option.bind_eq_some_iff.mp H
    obtain ⟨⟨t216, t217⟩, A110, H⟩ := H
    replace H : ((spec_MeanAngle.f k t202 t203).bind fun bt218 => (if t205 = t207 then (if t204 = t206 then (if t209 = t211 then (if t208 = t210 then (if t213 = t215 then (if t212 = t214 then (if t217 = bt218.2 then (laws_FnAngles.j0 k t202 t203 t204 t205 t208 t209 t212 t213 t216 (t216 != bt218.1)) else (laws_FnAngles.j0 k t202 t203 t204 t205 t208 t209 t212 t213 t216 true)) else (laws_FnAngles.j0 k t202 t203 t204 t205 t208 t209 t212 t213 t216 true)) else (laws_FnAngles.j0 k t202 t203 t204 t205 t208 t209 t212 t213 t216 true)) else (laws_FnAngles.j0 k t202 t203 t204 t205 t208 t209 t212 t213 t216 true)) else (laws_FnAngles.j0 k t202 t203 t204 t205 t208 t209 t212 t213 t216 true)) else (laws_FnAngles.j0 k t202 t203 t204 t205 t208 t209 t212 t213 t216 true)) else (laws_FnAngles.j0 k t202 t203 t204 t205 t208 t209 t212 t213 t216 true))) = some r := H
    have A11 := Aside0.mk A110
    clear A110
    replace H := Option.bind_eq_some_iff.mp H
    obtain ⟨⟨t218, t219⟩, A120, H⟩ := H
    replace H : (if t205 = t207 then (if t204 = t206 then (if t209 = t211 then (if t208 = t210 then (if t213 = t215 then (if t212 = t214 then (if t217 = t219 then (laws_FnAngles.j0 k t202 t203 t204 t205 t208 t209 t212 t213 t216 (t216 != t218)) else (laws_FnAngles.j0 k t202 t203 t204 t205 t208 t209 t212 t213 t216 true)) else (laws_FnAngles.j0 k t202 t203 t204 t205 t208 t209 t212 t213 t216 true)) else (laws_FnAngles.j0 k t202 t203 t204 t205 t208 t209 t212 t213 t216 true)) else (laws_FnAngles.j0 k t202 t203 t204 t205 t208 t209 t212 t213 t216 true)) else (laws_FnAngles.j0 k t202 t203 t204 t205 t208 t209 t212 t213 t216 true)) else (laws_FnAngles.j0 k t202 t203 t204 t205 t208 t209 t212 t213 t216 true)) else (laws_FnAngles.j0 k t202 t203 t204 t205 t208 t209 t212 t213 t216 true)) = some r := H
    have A12 := Aside0.mk A120
    clear A120
    have HC13 := Aside0.mk H
    clear H
    go_enter Try.func4, Try.ntmps4
    go_upto_region 12 with (first | ((with_reducible refine gate_callee (f := 9) rfl ?_); refine goesL_ (some 26) rfl rfl Try.func9 (by kernel_rfl) rfl #[.slice A0 l0.length c0] rfl (by (try simp only [List.map_toArray, List.map_cons, List.map_nil]); first | done | rfl | (simp only [List.length_drop, List.length_take]; rfl)) ?_; (with_reducible refine (laws_big.calls _ _ l0 false _ ?side1 ?side2 A2.out).mono ?_); (case side1 => repeat (first | exact HR0.out | (with_reducible refine Kd.C_alloc ?_ _) | (with_reducible refine Kd.C_drewN ?_ _) | (with_reducible refine Kd.C_drew ?_))); (case side2 => exact HC0.out); rintro e w' ⟨rfl, ⟨nd, rfl⟩⟩; refine ⟨_, rfl, ?_⟩) | ((with_reducible refine gate_callee (f := 16) rfl ?_); refine goesL_ (some 29) rfl rfl Try.func16 (by kernel_rfl) rfl #[.slice A0 l0.length c0] rfl (by (try simp only [List.map_toArray, List.map_cons, List.map_nil]); first | done | rfl | (simp only [List.length_drop, List.length_take]; rfl)) ?_; (with_reducible refine (spec_DrawTurnBetween.calls k _ _ l0 t202 t203 _ ?side1 ?side2 A4.out).mono ?_); (case side1 => repeat (first | exact HR0.out | (with_reducible refine Kd.C_alloc ?_ _) | (with_reducible refine Kd.C_drewN ?_ _) | (with_reducible refine Kd.C_drew ?_))); (case side2 => exact HC0.out); rintro e w14 ⟨rfl, hb⟩; refine ⟨_, rfl, ?_⟩; have n0_ := Aside0.mk (below_step (by repeat (first | (with_reducible first | exact HB.out | apply below_alloc | apply pw_below_drewN | apply below_drew1) | exact HB.out)) hb); clear HB; have HB := n0_; clear n0_; (try clear hb); (try clear hb2); (try clear hk); (try clear hi)) | ((with_reducible refine gate_callee (f := 17) rfl ?_); refine goesL_ (some 35) rfl rfl Try.func17 (by kernel_rfl) rfl #[.int .i64 t202, .int .i64 t203] rfl (by (try simp only [List.map_toArray, List.map_cons, List.map_nil]); first | done | rfl | (simp only [List.length_drop, List.length_take]; rfl)) ?_; (with_reducible refine (impl_TurnBetween.calls t202 t203 t204 t205 _ A5.out).mono ?_); rintro e w' ⟨rfl, ⟨nd, rfl⟩⟩; refine ⟨_, rfl, ?_⟩) | ((with_reducible refine gate_callee (f := 18) rfl ?_); refine goesL_ (some 41) rfl rfl Try.func18 (by kernel_rfl) rfl #[.int .i64 t202, .int .i64 t203] rfl (by (try simp only [List.map_toArray, List.map_cons, List.map_nil]); first | done | rfl | (simp only [List.length_drop, List.length_take]; rfl)) ?_; (with_reducible refine (spec_TurnBetween.calls t202 t203 t206 t207 _ A6.out).mono ?_); rintro e w' ⟨rfl, ⟨nd, rfl⟩⟩; refine ⟨_, rfl, ?_⟩) | ((with_reducible refine gate_callee (f := 19) rfl ?_); refine goesL_ (some 46) rfl rfl Try.func19 (by kernel_rfl) rfl #[.int .i64 t202] rfl (by (try simp only [List.map_toArray, List.map_cons, List.map_nil]); first | done | rfl | (simp only [List.length_drop, List.length_take]; rfl)) ?_; (with_reducible refine (impl_PlainAngle.calls t202 t208 t209 _ A7.out).mono ?_); rintro e w' ⟨rfl, ⟨nd, rfl⟩⟩; refine ⟨_, rfl, ?_⟩) | ((with_reducible refine gate_callee (f := 20) rfl ?_); refine goesL_ (some 51) rfl rfl Try.func20 (by kernel_rfl) rfl #[.int .i64 t202] rfl (by (try simp only [List.map_toArray, List.map_cons, List.map_nil]); first | done | rfl | (simp only [List.length_drop, List.length_take]; rfl)) ?_; (with_reducible refine (spec_PlainAngle.calls t202 t210 t211 _ A8.out).mono ?_); rintro e w' ⟨rfl, ⟨nd, rfl⟩⟩; refine ⟨_, rfl, ?_⟩) | ((with_reducible refine gate_callee (f := 21) rfl ?_); refine goesL_ (some 56) rfl rfl Try.func21 (by kernel_rfl) rfl #[.int .i64 t202] rfl (by (try simp only [List.map_toArray, List.map_cons, List.map_nil]); first | done | rfl | (simp only [List.length_drop, List.length_take]; rfl)) ?_; (with_reducible refine (impl_SignedAngle.calls t202 t212 t213 _ A9.out).mono ?_); rintro e w' ⟨rfl, ⟨nd, rfl⟩⟩; refine ⟨_, rfl, ?_⟩) | ((with_reducible refine gate_callee (f := 22) rfl ?_); refine goesL_ (some 61) rfl rfl Try.func22 (by kernel_rfl) rfl #[.int .i64 t202] rfl (by (try simp only [List.map_toArray, List.map_cons, List.map_nil]); first | done | rfl | (simp only [List.length_drop, List.length_take]; rfl)) ?_; (with_reducible refine (spec_SignedAngle.calls t202 t214 t215 _ A10.out).mono ?_); rintro e w' ⟨rfl, ⟨nd, rfl⟩⟩; refine ⟨_, rfl, ?_⟩) | ((with_reducible refine gate_callee (f := 23) rfl ?_); refine goesL_ (some 67) rfl rfl Try.func23 (by kernel_rfl) rfl #[.int .i64 t202, .int .i64 t203] rfl (by (try simp only [List.map_toArray, List.map_cons, List.map_nil]); first | done | rfl | (simp only [List.length_drop, List.length_take]; rfl)) ?_; (with_reducible refine (impl_MeanAngle.calls k t202 t203 t216 t217 _ A11.out).mono ?_); rintro e w' ⟨rfl, ⟨nd, rfl⟩⟩; refine ⟨_, rfl, ?_⟩) | ((with_reducible refine gate_callee (f := 24) rfl ?_); refine goesL_ (some 73) rfl rfl Try.func24 (by kernel_rfl) rfl #[.int .i64 t202, .int .i64 t203] rfl (by (try simp only [List.map_toArray, List.map_cons, List.map_nil]); first | done | rfl | (simp only [List.length_drop, List.length_take]; rfl)) ?_; (with_reducible refine (spec_MeanAngle.calls k t202 t203 t218 t219 _ A12.out).mono ?_); rintro e w' ⟨rfl, ⟨nd, rfl⟩⟩; refine ⟨_, rfl, ?_⟩))
    (try simp only [Act.put, List.setIfInBounds_toArray, List.set_cons_zero, List.set_cons_succ])
    go_cut [113] (fun v113 wc => ∃ (kq : Nat) (x113_12 : Bool), v113 = .bool x113_12 ∧ Aside0 (laws_FnAngles.j0 kq t202 t203 t204 t205 t208 t209 t212 t213 t216 x113_12 = some r) ∧ Aside0 (kq ≤ k) ∧ Aside0 (Below w.heap.size w wc))
    case first =>
      have H := HC13.out
      clear HC13
      by_cases c15 : t205 = t207
      · rw [if_pos c15] at H
        have c15b0 : (t205 == t207) = true := beq_iff_eq.mpr c15
        have c15b1 : (t205 != t207) = false := bne_eq_false_iff_eq.mpr c15
        clear c15
        (first | rw [c15b0] | (simp only [i64_w, i32_w]; rw [c15b0]) | skip)
        by_cases c16 : t204 = t206
        · rw [if_pos c16] at H
          have c16b0 : (t204 == t206) = true := beq_iff_eq.mpr c16
          have c16b1 : (t204 != t206) = false := bne_eq_false_iff_eq.mpr c16
          clear c16
          by_cases c17 : t209 = t211
          · rw [if_pos c17] at H
            have c17b0 : (t209 == t211) = true := beq_iff_eq.mpr c17
            have c17b1 : (t209 != t211) = false := bne_eq_false_iff_eq.mpr c17
            clear c17
            by_cases c18 : t208 = t210
            · rw [if_pos c18] at H
              have c18b0 : (t208 == t210) = true := beq_iff_eq.mpr c18
              have c18b1 : (t208 != t210) = false := bne_eq_false_iff_eq.mpr c18
              clear c18
              by_cases c19 : t213 = t215
              · rw [if_pos c19] at H
                have c19b0 : (t213 == t215) = true := beq_iff_eq.mpr c19
                have c19b1 : (t213 != t215) = false := bne_eq_false_iff_eq.mpr c19
                clear c19
                by_cases c20 : t212 = t214
                · rw [if_pos c20] at H
                  have c20b0 : (t212 == t214) = true := beq_iff_eq.mpr c20
                  have c20b1 : (t212 != t214) = false := bne_eq_false_iff_eq.mpr c20
                  clear c20
                  by_cases c21 : t217 = t219
                  · rw [if_pos c21] at H
                    have c21b0 : (t217 == t219) = true := beq_iff_eq.mpr c21
                    have c21b1 : (t217 != t219) = false := bne_eq_false_iff_eq.mpr c21
                    clear c21
                    have H' := Aside0.mk H
                    clear H
                    go_wp2
                    go_meet
                    case rel => exact ⟨_, ((t216 != t218)), (by first | rfl | (simp; done) | (simp [*]; done)), H', ⟨by first | omega | exact Nat.le_refl _⟩, ⟨by repeat (first | (with_reducible first | exact HB.out | apply below_alloc | apply pw_below_drewN | apply below_drew1) | exact HB.out)⟩⟩
                  · rw [if_neg c21] at H
                    have c21b0 : (t217 == t219) = false := beq_eq_false_iff_ne.mpr c21
                    have c21b1 : (t217 != t219) = true := bne_iff_ne.mpr c21
                    have H' := Aside0.mk H
                    clear H
                    go_wp2
                    go_meet
                    case rel => exact ⟨_, (true), (by first | rfl | (simp; done) | (simp [*]; done)), H', ⟨by first | omega | exact Nat.le_refl _⟩, ⟨by repeat (first | (with_reducible first | exact HB.out | apply below_alloc | apply pw_below_drewN | apply below_drew1) | exact HB.out)⟩⟩
                · rw [if_neg c20] at H
                  have c20b0 : (t212 == t214) = false := beq_eq_false_iff_ne.mpr c20
                  have c20b1 : (t212 != t214) = true := bne_iff_ne.mpr c20
                  have H' := Aside0.mk H
                  clear H
                  go_wp2
                  go_meet
                  case rel => exact ⟨_, (true), (by first | rfl | (simp; done) | (simp [*]; done)), H', ⟨by first | omega | exact Nat.le_refl _⟩, ⟨by repeat (first | (with_reducible first | exact HB.out | apply below_alloc | apply pw_below_drewN | apply below_drew1) | exact HB.out)⟩⟩
              · rw [if_neg c19] at H
                have c19b0 : (t213 == t215) = false := beq_eq_false_iff_ne.mpr c19
                have c19b1 : (t213 != t215) = true := bne_iff_ne.mpr c19
                have H' := Aside0.mk H
                clear H
                go_wp2
                go_meet
                case rel => exact ⟨_, (true), (by first | rfl | (simp; done) | (simp [*]; done)), H', ⟨by first | omega | exact Nat.le_refl _⟩, ⟨by repeat (first | (with_reducible first | exact HB.out | apply below_alloc | apply pw_below_drewN | apply below_drew1) | exact HB.out)⟩⟩
            · rw [if_neg c18] at H
              have c18b0 : (t208 == t210) = false := beq_eq_false_iff_ne.mpr c18
              have c18b1 : (t208 != t210) = true := bne_iff_ne.mpr c18
              have H' := Aside0.mk H
              clear H
              go_wp2
              go_meet
              case rel => exact ⟨_, (true), (by first | rfl | (simp; done) | (simp [*]; done)), H', ⟨by first | omega | exact Nat.le_refl _⟩, ⟨by repeat (first | (with_reducible first | exact HB.out | apply below_alloc | apply pw_below_drewN | apply below_drew1) | exact HB.out)⟩⟩
          · rw [if_neg c17] at H
            have c17b0 : (t209 == t211) = false := beq_eq_false_iff_ne.mpr c17
            have c17b1 : (t209 != t211) = true := bne_iff_ne.mpr c17
            have H' := Aside0.mk H
            clear H
            go_wp2
            go_meet
            case rel => exact ⟨_, (true), (by first | rfl | (simp; done) | (simp [*]; done)), H', ⟨by first | omega | exact Nat.le_refl _⟩, ⟨by repeat (first | (with_reducible first | exact HB.out | apply below_alloc | apply pw_below_drewN | apply below_drew1) | exact HB.out)⟩⟩
        · rw [if_neg c16] at H
          have c16b0 : (t204 == t206) = false := beq_eq_false_iff_ne.mpr c16
          have c16b1 : (t204 != t206) = true := bne_iff_ne.mpr c16
          have H' := Aside0.mk H
          clear H
          go_wp2
          go_meet
          case rel => exact ⟨_, (true), (by first | rfl | (simp; done) | (simp [*]; done)), H', ⟨by first | omega | exact Nat.le_refl _⟩, ⟨by repeat (first | (with_reducible first | exact HB.out | apply below_alloc | apply pw_below_drewN | apply below_drew1) | exact HB.out)⟩⟩
      · rw [if_neg c15] at H
        have c15b0 : (t205 == t207) = false := beq_eq_false_iff_ne.mpr c15
        have c15b1 : (t205 != t207) = true := bne_iff_ne.mpr c15
        (first | rw [c15b0] | (simp only [i64_w, i32_w]; rw [c15b0]) | skip)
        have H' := Aside0.mk H
        clear H
        go_wp2
        go_meet
        case rel => exact ⟨_, (true), (by first | rfl | (simp; done) | (simp [*]; done)), H', ⟨by first | omega | exact Nat.le_refl _⟩, ⟨by repeat (first | (with_reducible first | exact HB.out | apply below_alloc | apply pw_below_drewN | apply below_drew1) | exact HB.out)⟩⟩
    case rest =>
      clear HC13
      try clear c1
      try clear c2
      try clear p2
      try clear c3
      try clear c4
      try clear c9
      try clear c15
      try clear c15b0
      try clear c15b1
      try clear c16
      try clear c16b0
      try clear c16b1
      try clear c17
      try clear c17b0
      try clear c17b1
      try clear c18
      try clear c18b0
      try clear c18b1
      try clear c19
      try clear c19b0
      try clear c19b1
      try clear c20
      try clear c20b0
      try clear c20b1
      try clear c21
      try clear c21b0
      try clear c21b1
      obtain ⟨kq, x113_12, rfl, HA, HJ12, HB⟩ := hcut
      cases kq with
      | zero => exact absurd HA.out (by simp [laws_FnAngles.j0])
      | succ kj12 =>
        have H := HA.out
        clear HA
        simp only [laws_FnAngles.j0] at H
        by_cases c22 : x113_12 = true
        · subst c22
          have H1 : (some false) = some r := by rw [if_pos rfl] at H; exact H
          clear H
          have H := H1
          clear H1
          obtain rfl := Option.some.inj H
          go_wp2
          go_ret
          exact ⟨by first | rfl | (simp [errW_none, errW_some] <;> rfl) | (simp [*, errW_none, errW_some] <;> rfl), by repeat (first | (with_reducible first | exact HB.out | apply below_alloc | apply pw_below_drewN | apply below_drew1) | exact HB.out)⟩
        · replace c22 := Bool.eq_false_iff.mpr c22
          subst c22
          have H1 : (if t205 = 0 then ((impl_TurnBetween.f t203 t202).bind fun bt220 => (if bt220.2 = 0 then (if t209 = 0 then (laws_FnAngles.j1 kj12 t202 t204 t208 t212 t216 bt220.1 (t213 != 0)) else (laws_FnAngles.j1 kj12 t202 t204 t208 t212 t216 bt220.1 true)) else (laws_FnAngles.j1 kj12 t202 t204 t208 t212 t216 bt220.1 true))) else (some true)) = some r := by rw [if_neg (show ¬ (false = true) by decide)] at H; exact H
          clear H
          have H := H1
          clear H1
          by_cases c23 : t205 = 0
          · rw [if_pos c23] at H
            have c23b0 : (t205 == 0) = true := beq_iff_eq.mpr c23
            have c23b1 : (t205 != 0) = false := bne_eq_false_iff_eq.mpr c23
            clear c23
            replace H := Option.bind_eq_some_iff.mp H
            obtain ⟨⟨t220, t221⟩, A240, H⟩ := H
            replace H : (if t221 = 0 then (if t209 = 0 then (laws_FnAngles.j1 kj12 t202 t204 t208 t212 t216 t220 (t213 != 0)) else (laws_FnAngles.j1 kj12 t202 t204 t208 t212 t216 t220 true)) else (laws_FnAngles.j1 kj12 t202 t204 t208 t212 t216 t220 true)) = some r := H
            have A24 := Aside0.mk A240
            clear A240
            have HC25 := Aside0.mk H
            clear H
            go_upto_region 17 with (first | ((with_reducible refine gate_callee (f := 17) rfl ?_); refine goesL_ (some 119) rfl rfl Try.func17 (by kernel_rfl) rfl #[.int .i64 t203, .int .i64 t202] rfl (by (try simp only [List.map_toArray, List.map_cons, List.map_nil]); first | done | rfl | (simp only [List.length_drop, List.length_take]; rfl)) ?_; (with_reducible refine (impl_TurnBetween.calls t203 t202 t220 t221 _ A24.out).mono ?_); rintro e w' ⟨rfl, ⟨nd, rfl⟩⟩; refine ⟨_, rfl, ?_⟩))
            (try simp only [Act.put, List.setIfInBounds_toArray, List.set_cons_zero, List.set_cons_succ])
            go_cut [131] (fun v131 wc => ∃ (kq : Nat) (x131_24 : Bool), v131 = .bool x131_24 ∧ Aside0 (laws_FnAngles.j1 kq t202 t204 t208 t212 t216 t220 x131_24 = some r) ∧ Aside0 (kq ≤ kj12) ∧ Aside0 (Below w.heap.size w wc))
            case first =>
              have H := HC25.out
              clear HC25
              by_cases c26 : t221 = 0
              · rw [if_pos c26] at H
                have c26b0 : (t221 == 0) = true := beq_iff_eq.mpr c26
                have c26b1 : (t221 != 0) = false := bne_eq_false_iff_eq.mpr c26
                clear c26
                (first | rw [c26b0] | (simp only [i64_w, i32_w]; rw [c26b0]) | skip)
                by_cases c27 : t209 = 0
                · rw [if_pos c27] at H
                  have c27b0 : (t209 == 0) = true := beq_iff_eq.mpr c27
                  have c27b1 : (t209 != 0) = false := bne_eq_false_iff_eq.mpr c27
                  clear c27
                  have H' := Aside0.mk H
                  clear H
                  go_wp2
                  go_meet
                  case rel => exact ⟨_, ((t213 != 0)), (by first | rfl | (simp; done) | (simp [*]; done)), H', ⟨by have := HJ12.out; first | omega | exact Nat.le_refl _⟩, ⟨by repeat (first | (with_reducible first | exact HB.out | apply below_alloc | apply pw_below_drewN | apply below_drew1) | exact HB.out)⟩⟩
                · rw [if_neg c27] at H
                  have c27b0 : (t209 == 0) = false := beq_eq_false_iff_ne.mpr c27
                  have c27b1 : (t209 != 0) = true := bne_iff_ne.mpr c27
                  have H' := Aside0.mk H
                  clear H
                  go_wp2
                  go_meet
                  case rel => exact ⟨_, (true), (by first | rfl | (simp; done) | (simp [*]; done)), H', ⟨by have := HJ12.out; first | omega | exact Nat.le_refl _⟩, ⟨by repeat (first | (with_reducible first | exact HB.out | apply below_alloc | apply pw_below_drewN | apply below_drew1) | exact HB.out)⟩⟩
              · rw [if_neg c26] at H
                have c26b0 : (t221 == 0) = false := beq_eq_false_iff_ne.mpr c26
                have c26b1 : (t221 != 0) = true := bne_iff_ne.mpr c26
                (first | rw [c26b0] | (simp only [i64_w, i32_w]; rw [c26b0]) | skip)
                have H' := Aside0.mk H
                clear H
                go_wp2
                go_meet
                case rel => exact ⟨_, (true), (by first | rfl | (simp; done) | (simp [*]; done)), H', ⟨by have := HJ12.out; first | omega | exact Nat.le_refl _⟩, ⟨by repeat (first | (with_reducible first | exact HB.out | apply below_alloc | apply pw_below_drewN | apply below_drew1) | exact HB.out)⟩⟩
            case rest =>
              clear HC25
              try clear c1
              try clear c2
              try clear p2
              try clear c3
              try clear c4
              try clear c9
              try clear c15
              try clear c15b0
              try clear c15b1
              try clear c16
              try clear c16b0
              try clear c16b1
              try clear c17
              try clear c17b0
              try clear c17b1
              try clear c18
              try clear c18b0
              try clear c18b1
              try clear c19
              try clear c19b0
              try clear c19b1
              try clear c20
              try clear c20b0
              try clear c20b1
              try clear c21
              try clear c21b0
              try clear c21b1
              try clear c22
              try clear c23
              try clear c23b0
              try clear c23b1
              try clear c24
              try clear c26
              try clear c26b0
              try clear c26b1
              try clear c27
              try clear c27b0
              try clear c27b1
              try clear p2
              obtain ⟨kq, x131_24, rfl, HA, HJ24, HB⟩ := hcut
              cases kq with
              | zero => exact absurd HA.out (by simp [laws_FnAngles.j1])
              | succ kj24 =>
                have H := HA.out
                clear HA
                simp only [laws_FnAngles.j1] at H
                by_cases c28 : x131_24 = true
                · subst c28
                  have H1 : (some false) = some r := by rw [if_pos rfl] at H; exact H
                  clear H
                  have H := H1
                  clear H1
                  obtain rfl := Option.some.inj H
                  go_wp2
                  go_ret
                  exact ⟨by first | rfl | (simp [errW_none, errW_some] <;> rfl) | (simp [*, errW_none, errW_some] <;> rfl), by repeat (first | (with_reducible first | exact HB.out | apply below_alloc | apply pw_below_drewN | apply below_drew1) | exact HB.out)⟩
                · replace c28 := Bool.eq_false_iff.mpr c28
                  subst c28
                  have H1 : (if t204 = (-648000) then (if t220 = t204 then ((impl_TurnBetween.f t202 t216).bind fun bt222 => (if t208 ≥ 0 then (if t208 < 1296000 then (if t212 ≥ (-648000) then (if t212 < 648000 then (if (Int.tmod (wrap64 (t208 - t212)) 1296000) = 0 then (if bt222.2 = 0 then (if (wrap64 (2 * bt222.1)) = t204 then (some true) else (some ((wrap64 (2 * bt222.1)) == (wrap64 (t204 - 1))))) else (some false)) else (some false)) else (some false)) else (some false)) else (some false)) else (some false))) else (some false)) else (if t220 = (wrap64 (-t204)) then ((impl_TurnBetween.f t202 t216).bind fun bt224 => (if t208 ≥ 0 then (if t208 < 1296000 then (if t212 ≥ (-648000) then (if t212 < 648000 then (if (Int.tmod (wrap64 (t208 - t212)) 1296000) = 0 then (if bt224.2 = 0 then (if (wrap64 (2 * bt224.1)) = t204 then (some true) else (some ((wrap64 (2 * bt224.1)) == (wrap64 (t204 - 1))))) else (some false)) else (some false)) else (some false)) else (some false)) else (some false)) else (some false))) else (some false))) = some r := by rw [if_neg (show ¬ (false = true) by decide)] at H; exact H
                  clear H
                  have H := H1
                  clear H1
                  by_cases c29 : t204 = (-648000)
                  · rw [if_pos c29] at H
                    have c29b0 : (t204 == (-648000)) = true := beq_iff_eq.mpr c29
                    have c29b1 : (t204 != (-648000)) = false := bne_eq_false_iff_eq.mpr c29
                    clear c29
                    by_cases c30 : t220 = t204
                    · rw [if_pos c30] at H
                      have c30b0 : (t220 == t204) = true := beq_iff_eq.mpr c30
                      have c30b1 : (t220 != t204) = false := bne_eq_false_iff_eq.mpr c30
                      clear c30
                      replace H := Option.bind_eq_some_iff.mp H
                      obtain ⟨⟨t222, t223⟩, A310, H⟩ := H
                      replace H : (if t208 ≥ 0 then (if t208 < 1296000 then (if t212 ≥ (-648000) then (if t212 < 648000 then (if (Int.tmod (wrap64 (t208 - t212)) 1296000) = 0 then (if t223 = 0 then (if (wrap64 (2 * t222)) = t204 then (some true) else (some ((wrap64 (2 * t222)) == (wrap64 (t204 - 1))))) else (some false)) else (some false)) else (some false)) else (some false)) else (some false)) else (some false)) = some r := H
                      have A31 := Aside0.mk A310
                      clear A310
                      by_cases c32 : t208 ≥ 0
                      · rw [if_pos c32] at H
                        have c32b0 : decide (0 ≤ t208) = true := decide_eq_true c32
                        clear c32
                        by_cases c33 : t208 < 1296000
                        · rw [if_pos c33] at H
                          have c33b0 : decide (t208 < 1296000) = true := decide_eq_true c33
                          clear c33
                          by_cases c34 : t212 ≥ (-648000)
                          · rw [if_pos c34] at H
                            have c34b0 : decide ((-648000) ≤ t212) = true := decide_eq_true c34
                            clear c34
                            by_cases c35 : t212 < 648000
                            · rw [if_pos c35] at H
                              have c35b0 : decide (t212 < 648000) = true := decide_eq_true c35
                              clear c35
                              by_cases c36 : (Int.tmod (wrap64 (t208 - t212)) 1296000) = 0
                              · rw [if_pos c36] at H
                                have c36b0 : ((Int.tmod (wrap64 (t208 - t212)) 1296000) == 0) = true := beq_iff_eq.mpr c36
                                have c36b1 : ((Int.tmod (wrap64 (t208 - t212)) 1296000) != 0) = false := bne_eq_false_iff_eq.mpr c36
                                clear c36
                                by_cases c37 : t223 = 0
                                · rw [if_pos c37] at H
                                  have c37b0 : (t223 == 0) = true := beq_iff_eq.mpr c37
                                  have c37b1 : (t223 != 0) = false := bne_eq_false_iff_eq.mpr c37
                                  clear c37
                                  by_cases c38 : (wrap64 (2 * t222)) = t204
                                  · rw [if_pos c38] at H
                                    have c38b0 : ((wrap64 (2 * t222)) == t204) = true := beq_iff_eq.mpr c38
                                    have c38b1 : ((wrap64 (2 * t222)) != t204) = false := bne_eq_false_iff_eq.mpr c38
                                    clear c38
                                    obtain rfl := Option.some.inj H
                                    go_wp2_with (first | ((with_reducible refine gate_callee (f := 17) rfl ?_); refine goesL_ (some 152) rfl rfl Try.func17 (by kernel_rfl) rfl #[.int .i64 t202, .int .i64 t216] rfl (by (try simp only [List.map_toArray, List.map_cons, List.map_nil]); first | done | rfl | (simp only [List.length_drop, List.length_take]; rfl)) ?_; (with_reducible refine (impl_TurnBetween.calls t202 t216 t222 t223 _ A31.out).mono ?_); rintro e w' ⟨rfl, ⟨nd, rfl⟩⟩; refine ⟨_, rfl, ?_⟩))
                                    go_ret
                                    exact ⟨by first | rfl | (simp [errW_none, errW_some] <;> rfl) | (simp [*, errW_none, errW_some] <;> rfl), by repeat (first | (with_reducible first | exact HB.out | apply below_alloc | apply pw_below_drewN | apply below_drew1) | exact HB.out)⟩
                                  · rw [if_neg c38] at H
                                    have c38b0 : ((wrap64 (2 * t222)) == t204) = false := beq_eq_false_iff_ne.mpr c38
                                    have c38b1 : ((wrap64 (2 * t222)) != t204) = true := bne_iff_ne.mpr c38
                                    obtain rfl := Option.some.inj H
                                    go_wp2_with (first | ((with_reducible refine gate_callee (f := 17) rfl ?_); refine goesL_ (some 152) rfl rfl Try.func17 (by kernel_rfl) rfl #[.int .i64 t202, .int .i64 t216] rfl (by (try simp only [List.map_toArray, List.map_cons, List.map_nil]); first | done | rfl | (simp only [List.length_drop, List.length_take]; rfl)) ?_; (with_reducible refine (impl_TurnBetween.calls t202 t216 t222 t223 _ A31.out).mono ?_); rintro e w' ⟨rfl, ⟨nd, rfl⟩⟩; refine ⟨_, rfl, ?_⟩))
                                    go_ret
                                    exact ⟨by first | rfl | (simp [errW_none, errW_some] <;> rfl) | (simp [*, errW_none, errW_some] <;> rfl), by repeat (first | (with_reducible first | exact HB.out | apply below_alloc | apply pw_below_drewN | apply below_drew1) | exact HB.out)⟩
                                · rw [if_neg c37] at H
                                  have c37b0 : (t223 == 0) = false := beq_eq_false_iff_ne.mpr c37
                                  have c37b1 : (t223 != 0) = true := bne_iff_ne.mpr c37
                                  obtain rfl := Option.some.inj H
                                  go_wp2_with (first | ((with_reducible refine gate_callee (f := 17) rfl ?_); refine goesL_ (some 152) rfl rfl Try.func17 (by kernel_rfl) rfl #[.int .i64 t202, .int .i64 t216] rfl (by (try simp only [List.map_toArray, List.map_cons, List.map_nil]); first | done | rfl | (simp only [List.length_drop, List.length_take]; rfl)) ?_; (with_reducible refine (impl_TurnBetween.calls t202 t216 t222 t223 _ A31.out).mono ?_); rintro e w' ⟨rfl, ⟨nd, rfl⟩⟩; refine ⟨_, rfl, ?_⟩))
                                  go_ret
                                  exact ⟨by first | rfl | (simp [errW_none, errW_some] <;> rfl) | (simp [*, errW_none, errW_some] <;> rfl), by repeat (first | (with_reducible first | exact HB.out | apply below_alloc | apply pw_below_drewN | apply below_drew1) | exact HB.out)⟩
                              · rw [if_neg c36] at H
                                have c36b0 : ((Int.tmod (wrap64 (t208 - t212)) 1296000) == 0) = false := beq_eq_false_iff_ne.mpr c36
                                have c36b1 : ((Int.tmod (wrap64 (t208 - t212)) 1296000) != 0) = true := bne_iff_ne.mpr c36
                                obtain rfl := Option.some.inj H
                                go_wp2_with (first | ((with_reducible refine gate_callee (f := 17) rfl ?_); refine goesL_ (some 152) rfl rfl Try.func17 (by kernel_rfl) rfl #[.int .i64 t202, .int .i64 t216] rfl (by (try simp only [List.map_toArray, List.map_cons, List.map_nil]); first | done | rfl | (simp only [List.length_drop, List.length_take]; rfl)) ?_; (with_reducible refine (impl_TurnBetween.calls t202 t216 t222 t223 _ A31.out).mono ?_); rintro e w' ⟨rfl, ⟨nd, rfl⟩⟩; refine ⟨_, rfl, ?_⟩))
                                go_ret
                                exact ⟨by first | rfl | (simp [errW_none, errW_some] <;> rfl) | (simp [*, errW_none, errW_some] <;> rfl), by repeat (first | (with_reducible first | exact HB.out | apply below_alloc | apply pw_below_drewN | apply below_drew1) | exact HB.out)⟩
                            · rw [if_neg c35] at H
                              have c35b0 : decide (t212 < 648000) = false := decide_eq_false c35
                              clear c35
                              obtain rfl := Option.some.inj H
                              go_wp2_with (first | ((with_reducible refine gate_callee (f := 17) rfl ?_); refine goesL_ (some 152) rfl rfl Try.func17 (by kernel_rfl) rfl #[.int .i64 t202, .int .i64 t216] rfl (by (try simp only [List.map_toArray, List.map_cons, List.map_nil]); first | done | rfl | (simp only [List.length_drop, List.length_take]; rfl)) ?_; (with_reducible refine (impl_TurnBetween.calls t202 t216 t222 t223 _ A31.out).mono ?_); rintro e w' ⟨rfl, ⟨nd, rfl⟩⟩; refine ⟨_, rfl, ?_⟩))
                              go_ret
                              exact ⟨by first | rfl | (simp [errW_none, errW_some] <;> rfl) | (simp [*, errW_none, errW_some] <;> rfl), by repeat (first | (with_reducible first | exact HB.out | apply below_alloc | apply pw_below_drewN | apply below_drew1) | exact HB.out)⟩
                          · rw [if_neg c34] at H
                            have c34b0 : decide ((-648000) ≤ t212) = false := decide_eq_false c34
                            clear c34
                            obtain rfl := Option.some.inj H
                            go_wp2_with (first | ((with_reducible refine gate_callee (f := 17) rfl ?_); refine goesL_ (some 152) rfl rfl Try.func17 (by kernel_rfl) rfl #[.int .i64 t202, .int .i64 t216] rfl (by (try simp only [List.map_toArray, List.map_cons, List.map_nil]); first | done | rfl | (simp only [List.length_drop, List.length_take]; rfl)) ?_; (with_reducible refine (impl_TurnBetween.calls t202 t216 t222 t223 _ A31.out).mono ?_); rintro e w' ⟨rfl, ⟨nd, rfl⟩⟩; refine ⟨_, rfl, ?_⟩))
                            go_ret
                            exact ⟨by first | rfl | (simp [errW_none, errW_some] <;> rfl) | (simp [*, errW_none, errW_some] <;> rfl), by repeat (first | (with_reducible first | exact HB.out | apply below_alloc | apply pw_below_drewN | apply below_drew1) | exact HB.out)⟩
                        · rw [if_neg c33] at H
                          have c33b0 : decide (t208 < 1296000) = false := decide_eq_false c33
                          clear c33
                          obtain rfl := Option.some.inj H
                          go_wp2_with (first | ((with_reducible refine gate_callee (f := 17) rfl ?_); refine goesL_ (some 152) rfl rfl Try.func17 (by kernel_rfl) rfl #[.int .i64 t202, .int .i64 t216] rfl (by (try simp only [List.map_toArray, List.map_cons, List.map_nil]); first | done | rfl | (simp only [List.length_drop, List.length_take]; rfl)) ?_; (with_reducible refine (impl_TurnBetween.calls t202 t216 t222 t223 _ A31.out).mono ?_); rintro e w' ⟨rfl, ⟨nd, rfl⟩⟩; refine ⟨_, rfl, ?_⟩))
                          go_ret
                          exact ⟨by first | rfl | (simp [errW_none, errW_some] <;> rfl) | (simp [*, errW_none, errW_some] <;> rfl), by repeat (first | (with_reducible first | exact HB.out | apply below_alloc | apply pw_below_drewN | apply below_drew1) | exact HB.out)⟩
                      · rw [if_neg c32] at H
                        have c32b0 : decide (0 ≤ t208) = false := decide_eq_false c32
                        clear c32
                        obtain rfl := Option.some.inj H
                        go_wp2_with (first | ((with_reducible refine gate_callee (f := 17) rfl ?_); refine goesL_ (some 152) rfl rfl Try.func17 (by kernel_rfl) rfl #[.int .i64 t202, .int .i64 t216] rfl (by (try simp only [List.map_toArray, List.map_cons, List.map_nil]); first | done | rfl | (simp only [List.length_drop, List.length_take]; rfl)) ?_; (with_reducible refine (impl_TurnBetween.calls t202 t216 t222 t223 _ A31.out).mono ?_); rintro e w' ⟨rfl, ⟨nd, rfl⟩⟩; refine ⟨_, rfl, ?_⟩))
                        go_ret
                        exact ⟨by first | rfl | (simp [errW_none, errW_some] <;> rfl) | (simp [*, errW_none, errW_some] <;> rfl), by repeat (first | (with_reducible first | exact HB.out | apply below_alloc | apply pw_below_drewN | apply below_drew1) | exact HB.out)⟩
                    · rw [if_neg c30] at H
                      have c30b0 : (t220 == t204) = false := beq_eq_false_iff_ne.mpr c30
                      have c30b1 : (t220 != t204) = true := bne_iff_ne.mpr c30
                      obtain rfl := Option.some.inj H
                      go_wp2
                      go_ret
                      exact ⟨by first | rfl | (simp [errW_none, errW_some] <;> rfl) | (simp [*, errW_none, errW_some] <;> rfl), by repeat (first | (with_reducible first | exact HB.out | apply below_alloc | apply pw_below_drewN | apply below_drew1) | exact HB.out)⟩
                  · rw [if_neg c29] at H
                    have c29b0 : (t204 == (-648000)) = false := beq_eq_false_iff_ne.mpr c29
                    have c29b1 : (t204 != (-648000)) = true := bne_iff_ne.mpr c29
                    by_cases c39 : t220 = (wrap64 (-t204))
                    · rw [if_pos c39] at H
                      have c39b0 : (t220 == (wrap64 (-t204))) = true := beq_iff_eq.mpr c39
                      have c39b1 : (t220 != (wrap64 (-t204))) = false := bne_eq_false_iff_eq.mpr c39
                      clear c39
                      replace H := Option.bind_eq_some_iff.mp H
                      obtain ⟨⟨t224, t225⟩, A400, H⟩ := H
                      replace H : (if t208 ≥ 0 then (if t208 < 1296000 then (if t212 ≥ (-648000) then (if t212 < 648000 then (if (Int.tmod (wrap64 (t208 - t212)) 1296000) = 0 then (if t225 = 0 then (if (wrap64 (2 * t224)) = t204 then (some true) else (some ((wrap64 (2 * t224)) == (wrap64 (t204 - 1))))) else (some false)) else (some false)) else (some false)) else (some false)) else (some false)) else (some false)) = some r := H
                      have A40 := Aside0.mk A400
                      clear A400
                      by_cases c41 : t208 ≥ 0
                      · rw [if_pos c41] at H
                        have c41b0 : decide (0 ≤ t208) = true := decide_eq_true c41
                        clear c41
                        by_cases c42 : t208 < 1296000
                        · rw [if_pos c42] at H
                          have c42b0 : decide (t208 < 1296000) = true := decide_eq_true c42
                          clear c42
                          by_cases c43 : t212 ≥ (-648000)
                          · rw [if_pos c43] at H
                            have c43b0 : decide ((-648000) ≤ t212) = true := decide_eq_true c43
                            clear c43
                            by_cases c44 : t212 < 648000
                            · rw [if_pos c44] at H
                              have c44b0 : decide (t212 < 648000) = true := decide_eq_true c44
                              clear c44
                              by_cases c45 : (Int.tmod (wrap64 (t208 - t212)) 1296000) = 0
                              · rw [if_pos c45] at H
                                have c45b0 : ((Int.tmod (wrap64 (t208 - t212)) 1296000) == 0) = true := beq_iff_eq.mpr c45
                                have c45b1 : ((Int.tmod (wrap64 (t208 - t212)) 1296000) != 0) = false := bne_eq_false_iff_eq.mpr c45
                                clear c45
                                by_cases c46 : t225 = 0
                                · rw [if_pos c46] at H
                                  have c46b0 : (t225 == 0) = true := beq_iff_eq.mpr c46
                                  have c46b1 : (t225 != 0) = false := bne_eq_false_iff_eq.mpr c46
                                  clear c46
                                  by_cases c47 : (wrap64 (2 * t224)) = t204
                                  · rw [if_pos c47] at H
                                    have c47b0 : ((wrap64 (2 * t224)) == t204) = true := beq_iff_eq.mpr c47
                                    have c47b1 : ((wrap64 (2 * t224)) != t204) = false := bne_eq_false_iff_eq.mpr c47
                                    clear c47
                                    obtain rfl := Option.some.inj H
                                    go_wp2_with (first | ((with_reducible refine gate_callee (f := 17) rfl ?_); refine goesL_ (some 152) rfl rfl Try.func17 (by kernel_rfl) rfl #[.int .i64 t202, .int .i64 t216] rfl (by (try simp only [List.map_toArray, List.map_cons, List.map_nil]); first | done | rfl | (simp only [List.length_drop, List.length_take]; rfl)) ?_; (with_reducible refine (impl_TurnBetween.calls t202 t216 t224 t225 _ A40.out).mono ?_); rintro e w' ⟨rfl, ⟨nd, rfl⟩⟩; refine ⟨_, rfl, ?_⟩))
                                    go_ret
                                    exact ⟨by first | rfl | (simp [errW_none, errW_some] <;> rfl) | (simp [*, errW_none, errW_some] <;> rfl), by repeat (first | (with_reducible first | exact HB.out | apply below_alloc | apply pw_below_drewN | apply below_drew1) | exact HB.out)⟩
                                  · rw [if_neg c47] at H
                                    have c47b0 : ((wrap64 (2 * t224)) == t204) = false := beq_eq_false_iff_ne.mpr c47
                                    have c47b1 : ((wrap64 (2 * t224)) != t204) = true := bne_iff_ne.mpr c47
                                    obtain rfl := Option.some.inj H
                                    go_wp2_with (first | ((with_reducible refine gate_callee (f := 17) rfl ?_); refine goesL_ (some 152) rfl rfl Try.func17 (by kernel_rfl) rfl #[.int .i64 t202, .int .i64 t216] rfl (by (try simp only [List.map_toArray, List.map_cons, List.map_nil]); first | done | rfl | (simp only [List.length_drop, List.length_take]; rfl)) ?_; (with_reducible refine (impl_TurnBetween.calls t202 t216 t224 t225 _ A40.out).mono ?_); rintro e w' ⟨rfl, ⟨nd, rfl⟩⟩; refine ⟨_, rfl, ?_⟩))
                                    go_ret
                                    exact ⟨by first | rfl | (simp [errW_none, errW_some] <;> rfl) | (simp [*, errW_none, errW_some] <;> rfl), by repeat (first | (with_reducible first | exact HB.out | apply below_alloc | apply pw_below_drewN | apply below_drew1) | exact HB.out)⟩
                                · rw [if_neg c46] at H
                                  have c46b0 : (t225 == 0) = false := beq_eq_false_iff_ne.mpr c46
                                  have c46b1 : (t225 != 0) = true := bne_iff_ne.mpr c46
                                  obtain rfl := Option.some.inj H
                                  go_wp2_with (first | ((with_reducible refine gate_callee (f := 17) rfl ?_); refine goesL_ (some 152) rfl rfl Try.func17 (by kernel_rfl) rfl #[.int .i64 t202, .int .i64 t216] rfl (by (try simp only [List.map_toArray, List.map_cons, List.map_nil]); first | done | rfl | (simp only [List.length_drop, List.length_take]; rfl)) ?_; (with_reducible refine (impl_TurnBetween.calls t202 t216 t224 t225 _ A40.out).mono ?_); rintro e w' ⟨rfl, ⟨nd, rfl⟩⟩; refine ⟨_, rfl, ?_⟩))
                                  go_ret
                                  exact ⟨by first | rfl | (simp [errW_none, errW_some] <;> rfl) | (simp [*, errW_none, errW_some] <;> rfl), by repeat (first | (with_reducible first | exact HB.out | apply below_alloc | apply pw_below_drewN | apply below_drew1) | exact HB.out)⟩
                              · rw [if_neg c45] at H
                                have c45b0 : ((Int.tmod (wrap64 (t208 - t212)) 1296000) == 0) = false := beq_eq_false_iff_ne.mpr c45
                                have c45b1 : ((Int.tmod (wrap64 (t208 - t212)) 1296000) != 0) = true := bne_iff_ne.mpr c45
                                obtain rfl := Option.some.inj H
                                go_wp2_with (first | ((with_reducible refine gate_callee (f := 17) rfl ?_); refine goesL_ (some 152) rfl rfl Try.func17 (by kernel_rfl) rfl #[.int .i64 t202, .int .i64 t216] rfl (by (try simp only [List.map_toArray, List.map_cons, List.map_nil]); first | done | rfl | (simp only [List.length_drop, List.length_take]; rfl)) ?_; (with_reducible refine (impl_TurnBetween.calls t202 t216 t224 t225 _ A40.out).mono ?_); rintro e w' ⟨rfl, ⟨nd, rfl⟩⟩; refine ⟨_, rfl, ?_⟩))
                                go_ret
                                exact ⟨by first | rfl | (simp [errW_none, errW_some] <;> rfl) | (simp [*, errW_none, errW_some] <;> rfl), by repeat (first | (with_reducible first | exact HB.out | apply below_alloc | apply pw_below_drewN | apply below_drew1) | exact HB.out)⟩
                            · rw [if_neg c44] at H
                              have c44b0 : decide (t212 < 648000) = false := decide_eq_false c44
                              clear c44
                              obtain rfl := Option.some.inj H
                              go_wp2_with (first | ((with_reducible refine gate_callee (f := 17) rfl ?_); refine goesL_ (some 152) rfl rfl Try.func17 (by kernel_rfl) rfl #[.int .i64 t202, .int .i64 t216] rfl (by (try simp only [List.map_toArray, List.map_cons, List.map_nil]); first | done | rfl | (simp only [List.length_drop, List.length_take]; rfl)) ?_; (with_reducible refine (impl_TurnBetween.calls t202 t216 t224 t225 _ A40.out).mono ?_); rintro e w' ⟨rfl, ⟨nd, rfl⟩⟩; refine ⟨_, rfl, ?_⟩))
                              go_ret
                              exact ⟨by first | rfl | (simp [errW_none, errW_some] <;> rfl) | (simp [*, errW_none, errW_some] <;> rfl), by repeat (first | (with_reducible first | exact HB.out | apply below_alloc | apply pw_below_drewN | apply below_drew1) | exact HB.out)⟩
                          · rw [if_neg c43] at H
                            have c43b0 : decide ((-648000) ≤ t212) = false := decide_eq_false c43
                            clear c43
                            obtain rfl := Option.some.inj H
                            go_wp2_with (first | ((with_reducible refine gate_callee (f := 17) rfl ?_); refine goesL_ (some 152) rfl rfl Try.func17 (by kernel_rfl) rfl #[.int .i64 t202, .int .i64 t216] rfl (by (try simp only [List.map_toArray, List.map_cons, List.map_nil]); first | done | rfl | (simp only [List.length_drop, List.length_take]; rfl)) ?_; (with_reducible refine (impl_TurnBetween.calls t202 t216 t224 t225 _ A40.out).mono ?_); rintro e w' ⟨rfl, ⟨nd, rfl⟩⟩; refine ⟨_, rfl, ?_⟩))
                            go_ret
                            exact ⟨by first | rfl | (simp [errW_none, errW_some] <;> rfl) | (simp [*, errW_none, errW_some] <;> rfl), by repeat (first | (with_reducible first | exact HB.out | apply below_alloc | apply pw_below_drewN | apply below_drew1) | exact HB.out)⟩
                        · rw [if_neg c42] at H
                          have c42b0 : decide (t208 < 1296000) = false := decide_eq_false c42
                          clear c42
                          obtain rfl := Option.some.inj H
                          go_wp2_with (first | ((with_reducible refine gate_callee (f := 17) rfl ?_); refine goesL_ (some 152) rfl rfl Try.func17 (by kernel_rfl) rfl #[.int .i64 t202, .int .i64 t216] rfl (by (try simp only [List.map_toArray, List.map_cons, List.map_nil]); first | done | rfl | (simp only [List.length_drop, List.length_take]; rfl)) ?_; (with_reducible refine (impl_TurnBetween.calls t202 t216 t224 t225 _ A40.out).mono ?_); rintro e w' ⟨rfl, ⟨nd, rfl⟩⟩; refine ⟨_, rfl, ?_⟩))
                          go_ret
                          exact ⟨by first | rfl | (simp [errW_none, errW_some] <;> rfl) | (simp [*, errW_none, errW_some] <;> rfl), by repeat (first | (with_reducible first | exact HB.out | apply below_alloc | apply pw_below_drewN | apply below_drew1) | exact HB.out)⟩
                      · rw [if_neg c41] at H
                        have c41b0 : decide (0 ≤ t208) = false := decide_eq_false c41
                        clear c41
                        obtain rfl := Option.some.inj H
                        go_wp2_with (first | ((with_reducible refine gate_callee (f := 17) rfl ?_); refine goesL_ (some 152) rfl rfl Try.func17 (by kernel_rfl) rfl #[.int .i64 t202, .int .i64 t216] rfl (by (try simp only [List.map_toArray, List.map_cons, List.map_nil]); first | done | rfl | (simp only [List.length_drop, List.length_take]; rfl)) ?_; (with_reducible refine (impl_TurnBetween.calls t202 t216 t224 t225 _ A40.out).mono ?_); rintro e w' ⟨rfl, ⟨nd, rfl⟩⟩; refine ⟨_, rfl, ?_⟩))
                        go_ret
                        exact ⟨by first | rfl | (simp [errW_none, errW_some] <;> rfl) | (simp [*, errW_none, errW_some] <;> rfl), by repeat (first | (with_reducible first | exact HB.out | apply below_alloc | apply pw_below_drewN | apply below_drew1) | exact HB.out)⟩
                    · rw [if_neg c39] at H
                      have c39b0 : (t220 == (wrap64 (-t204))) = false := beq_eq_false_iff_ne.mpr c39
                      have c39b1 : (t220 != (wrap64 (-t204))) = true := bne_iff_ne.mpr c39
                      obtain rfl := Option.some.inj H
                      go_wp2
                      go_ret
                      exact ⟨by first | rfl | (simp [errW_none, errW_some] <;> rfl) | (simp [*, errW_none, errW_some] <;> rfl), by repeat (first | (with_reducible first | exact HB.out | apply below_alloc | apply pw_below_drewN | apply below_drew1) | exact HB.out)⟩
          · rw [if_neg c23] at H
            have c23b0 : (t205 == 0) = false := beq_eq_false_iff_ne.mpr c23
            have c23b1 : (t205 != 0) = true := bne_iff_ne.mpr c23
            obtain rfl := Option.some.inj H
            go_wp2
            go_ret
            exact ⟨by first | rfl | (simp [errW_none, errW_some] <;> rfl) | (simp [*, errW_none, errW_some] <;> rfl), by repeat (first | (with_reducible first | exact HB.out | apply below_alloc | apply pw_below_drewN | apply below_drew1) | exact HB.out)⟩

/-- THE ONE PURE STATEMENT of laws_FnAngles: yours. -/
def laws_FnAngles.Pure : Prop := ∀ (l0 : List Int), l0.length ≤ maxLen → l0.length * 1 ≤ 140737488351232 → (∀ x ∈ l0, (Lit.int .u8 x).wf = true) → ∃ k, laws_FnAngles.f k l0 = some true
theorem laws_FnAngles.walk (P : laws_FnAngles.Pure) (a0 : Option Addr) (len0 cap0 : Nat) (z0 : List Int) (w : World) (w0 : (a0 = none ∧ len0 = 0 ∧ cap0 = 0 ∧ z0 = []) ∨ ∃ x, a0 = some x ∧ len0 ≤ cap0 ∧ cap0 ≤ maxLen ∧ z0.length = cap0 ∧ (∀ i, i < z0.length → w.cell? (x.add i) = some (.int .u8 (z0.getD i 0))) ∧ ∀ n ∈ z0, (Lit.int .u8 n).wf = true) (y0 : len0 * 1 ≤ 140737488351232) :
    Calls Try.prog 4 #[.slice a0 len0 cap0] w fun e w' => e = .returned (.bool true) ∧ Below w.heap.size w w' := by
  obtain ⟨l0, rfl, hr0, hm0, hw0, hc0⟩ := ReadsInt.ofRowC w0
  obtain ⟨k, h⟩ := P l0 hm0 y0 hw0
  refine (laws_FnAngles.calls k _ _ l0 true w (Kd.C_of_reads (d := (0 : Int)) (h1 := fun _ => rfl) hr0) hc0 h).mono ?_
  rintro e w' ⟨rfl, hd⟩
  exact ⟨rfl, hd⟩

end Go.Proofs.Ytcnaocjhfgnphaa.PFnAngles
