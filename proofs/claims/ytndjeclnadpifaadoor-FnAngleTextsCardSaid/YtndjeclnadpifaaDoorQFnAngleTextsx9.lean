-- The machine's side of the law FnAngleTexts: functions and their walks, made by q.py out of the kit's own print.
import Derived.Test.YtndjeclnadpifaaDoorQFnAngleTextsx0
import Derived.Test.YtndjeclnadpifaaDoorQFnAngleTextsx1
import Derived.Test.YtndjeclnadpifaaDoorQFnAngleTextsx2
import Derived.Test.YtndjeclnadpifaaDoorQFnAngleTextsx3
import Derived.Test.YtndjeclnadpifaaDoorQFnAngleTextsx7
import Derived.Test.YtndjeclnadpifaaDoorQFnAngleTextsx8
namespace Go.Proofs.YtndjeclnadpifaaDoor.PFnAngleTexts
open Go.RowKit Go.Proofs.YtndjeclnadpifaaDoorW.PrintWords Go.Proofs.YtndjeclnadpifaaDoorW.PrintLast Go.Proofs.YtndjeclnadpifaaDoorW.PrintMore
attribute [local go_sem] max2_int min2_int max_two min_two max_three min_three max_four min_four   -- for this text's walks alone
set_option linter.unusedVariables false
set_option linter.unusedSimpArgs false

/-! ### laws_FnAngleTexts: function 5 -/
mutual
def laws_FnAngleTexts.j0 : Nat → Int → ByteArray → Int → ByteArray → Int → Int → Int → Int → Int → Bool → Int → Bool → Option (Bool)
  | 0, _, _, _, _, _, _, _, _, _, _, _, _ => none
  | k + 1, x3, x4, x5, x8, x9, x10, x13, x14, x15, x16, x17, x103 => if x103 = true then (some false) else (if x10 = 0 then ((impl_AngleText.f k x9).bind fun bt340 => (if bt340.2 = 0 then (if bt340.1.toList = x8.toList then (laws_FnAngleTexts.j1 k x3 x4 x5 x13 x14 x15 x16 x17) else (some false)) else (some false))) else (laws_FnAngleTexts.j1 k x3 x4 x5 x13 x14 x15 x16 x17))
def laws_FnAngleTexts.j1 : Nat → Int → ByteArray → Int → Int → Int → Int → Bool → Int → Option (Bool)
  | 0, _, _, _, _, _, _, _, _ => none
  | k + 1, x3, x4, x5, x13, x14, x15, x16, x17 => if x17 = 0 then ((impl_LiesOnWay.f x14 x14 x15).bind fun bt342 => ((impl_LiesOnWay.f x15 x14 x15).bind fun bt344 => ((impl_LiesOnWay.f x13 x15 x14).bind fun bt346 => (if bt342.2 = 0 then (if bt342.1 = true then (if bt344.2 = 0 then (if bt344.1 = true then (if bt346.2 = 0 then (if x16 = true then (laws_FnAngleTexts.j2 k x3 x4 x5 false) else (if bt346.1 = true then (laws_FnAngleTexts.j2 k x3 x4 x5 false) else (laws_FnAngleTexts.j2 k x3 x4 x5 ((Int.tmod (wrap64 (x15 - x14)) 1296000) != 0)))) else (laws_FnAngleTexts.j2 k x3 x4 x5 true)) else (laws_FnAngleTexts.j2 k x3 x4 x5 true)) else (laws_FnAngleTexts.j2 k x3 x4 x5 true)) else (laws_FnAngleTexts.j2 k x3 x4 x5 true)) else (laws_FnAngleTexts.j2 k x3 x4 x5 true))))) else (if x5 = 0 then ((impl_ReadAngle.f k x4).bind fun bt350 => (if bt350.2 = 0 then (some (bt350.1 == x3)) else (some false))) else (some true))
def laws_FnAngleTexts.j2 : Nat → Int → ByteArray → Int → Bool → Option (Bool)
  | 0, _, _, _, _ => none
  | k + 1, x3, x4, x5, x173 => if x173 = true then (some false) else (if x5 = 0 then ((impl_ReadAngle.f k x4).bind fun bt348 => (if bt348.2 = 0 then (some (bt348.1 == x3)) else (some false))) else (some true))
end
def laws_FnAngleTexts.f (k : Nat) (l0 : List Int) : Option (Bool) := (laws_big.f l0).bind fun t322 => (if t322 = true then (some true) else ((spec_DrawAngleText.f k l0).bind fun t323 => ((impl_AngleText.f k t323).bind fun bt324 => ((spec_AngleText.f k t323).bind fun bt326 => ((spec_DrawReadAngle.f k l0).bind fun t328 => ((impl_ReadAngle.f k t328).bind fun bt329 => ((spec_ReadAngle.f k t328).bind fun bt331 => ((spec_DrawLiesOnWay.f k l0).bind fun bt333 => ((impl_LiesOnWay.f bt333.1 bt333.2.1 bt333.2.2).bind fun bt336 => ((spec_LiesOnWay.f k bt333.1 bt333.2.1 bt333.2.2).bind fun bt338 => (if bt324.2 = bt326.2 then (if bt324.1.toList = bt326.1.toList then (if bt329.2 = bt331.2 then (if bt329.1 = bt331.1 then (if bt336.2 = bt338.2 then (laws_FnAngleTexts.j0 k t323 bt324.1 bt324.2 t328 bt329.1 bt329.2 bt333.1 bt333.2.1 bt333.2.2 bt336.1 bt336.2 (bt336.1 != bt338.1)) else (laws_FnAngleTexts.j0 k t323 bt324.1 bt324.2 t328 bt329.1 bt329.2 bt333.1 bt333.2.1 bt333.2.2 bt336.1 bt336.2 true)) else (laws_FnAngleTexts.j0 k t323 bt324.1 bt324.2 t328 bt329.1 bt329.2 bt333.1 bt333.2.1 bt333.2.2 bt336.1 bt336.2 true)) else (laws_FnAngleTexts.j0 k t323 bt324.1 bt324.2 t328 bt329.1 bt329.2 bt333.1 bt333.2.1 bt333.2.2 bt336.1 bt336.2 true)) else (laws_FnAngleTexts.j0 k t323 bt324.1 bt324.2 t328 bt329.1 bt329.2 bt333.1 bt333.2.1 bt333.2.2 bt336.1 bt336.2 true)) else (laws_FnAngleTexts.j0 k t323 bt324.1 bt324.2 t328 bt329.1 bt329.2 bt333.1 bt333.2.1 bt333.2.2 bt336.1 bt336.2 true))))))))))))
theorem laws_FnAngleTexts.mono_l : ∀ k, (∀ y0 y1 y2 y3 y4 y5 y6 y7 y8 y9 y10 y11, LeO (laws_FnAngleTexts.j0 k y0 y1 y2 y3 y4 y5 y6 y7 y8 y9 y10 y11) (laws_FnAngleTexts.j0 (k + 1) y0 y1 y2 y3 y4 y5 y6 y7 y8 y9 y10 y11)) ∧ (∀ y0 y1 y2 y3 y4 y5 y6 y7, LeO (laws_FnAngleTexts.j1 k y0 y1 y2 y3 y4 y5 y6 y7) (laws_FnAngleTexts.j1 (k + 1) y0 y1 y2 y3 y4 y5 y6 y7)) ∧ (∀ y0 y1 y2 y3, LeO (laws_FnAngleTexts.j2 k y0 y1 y2 y3) (laws_FnAngleTexts.j2 (k + 1) y0 y1 y2 y3))
  | 0 => ⟨fun _ _ _ _ _ _ _ _ _ _ _ _ r h => by simp [laws_FnAngleTexts.j0] at h, fun _ _ _ _ _ _ _ _ r h => by simp [laws_FnAngleTexts.j1] at h, fun _ _ _ _ r h => by simp [laws_FnAngleTexts.j2] at h⟩
  | k + 1 => by
    obtain ⟨ih0, ih1, ih2⟩ := laws_FnAngleTexts.mono_l k
    refine ⟨?_, ?_, ?_⟩
    · intro y0 y1 y2 y3 y4 y5 y6 y7 y8 y9 y10 y11
      unfold laws_FnAngleTexts.j0
      repeat' first
      | (with_reducible exact ih0 _ _ _ _ _ _ _ _ _ _ _ _)
      | (with_reducible exact ih1 _ _ _ _ _ _ _ _)
      | (with_reducible exact ih2 _ _ _ _)
      | (with_reducible exact impl_AngleText.mono _ _)
      | (with_reducible exact impl_ReadAngle.mono _ _)
      | (with_reducible exact spec_AngleText.mono _ _)
      | (with_reducible exact spec_DrawAngleText.mono _ _)
      | (with_reducible exact spec_DrawLiesOnWay.mono _ _)
      | (with_reducible exact spec_DrawReadAngle.mono _ _)
      | (with_reducible exact spec_LiesOnWay.mono _ _ _ _)
      | (with_reducible exact spec_ReadAngle.mono _ _)
      | (with_reducible exact LeO.refl _)
      | (with_reducible exact LeO.none _)
      | (with_reducible refine LeO.ite ?_ ?_)
      | (with_reducible refine LeO.bind ?_ (fun _ => ?_))
      | exact ih0 _ _ _ _ _ _ _ _ _ _ _ _
      | exact ih1 _ _ _ _ _ _ _ _
      | exact ih2 _ _ _ _
      | exact impl_AngleText.mono _ _
      | exact impl_ReadAngle.mono _ _
      | exact spec_AngleText.mono _ _
      | exact spec_DrawAngleText.mono _ _
      | exact spec_DrawLiesOnWay.mono _ _
      | exact spec_DrawReadAngle.mono _ _
      | exact spec_LiesOnWay.mono _ _ _ _
      | exact spec_ReadAngle.mono _ _
      | exact LeO.none _
      | refine LeO.ite ?_ ?_
      | refine LeO.bind ?_ (fun _ => ?_)
    · intro y0 y1 y2 y3 y4 y5 y6 y7
      unfold laws_FnAngleTexts.j1
      repeat' first
      | (with_reducible exact ih0 _ _ _ _ _ _ _ _ _ _ _ _)
      | (with_reducible exact ih1 _ _ _ _ _ _ _ _)
      | (with_reducible exact ih2 _ _ _ _)
      | (with_reducible exact impl_AngleText.mono _ _)
      | (with_reducible exact impl_ReadAngle.mono _ _)
      | (with_reducible exact spec_AngleText.mono _ _)
      | (with_reducible exact spec_DrawAngleText.mono _ _)
      | (with_reducible exact spec_DrawLiesOnWay.mono _ _)
      | (with_reducible exact spec_DrawReadAngle.mono _ _)
      | (with_reducible exact spec_LiesOnWay.mono _ _ _ _)
      | (with_reducible exact spec_ReadAngle.mono _ _)
      | (with_reducible exact LeO.refl _)
      | (with_reducible exact LeO.none _)
      | (with_reducible refine LeO.ite ?_ ?_)
      | (with_reducible refine LeO.bind ?_ (fun _ => ?_))
      | exact ih0 _ _ _ _ _ _ _ _ _ _ _ _
      | exact ih1 _ _ _ _ _ _ _ _
      | exact ih2 _ _ _ _
      | exact impl_AngleText.mono _ _
      | exact impl_ReadAngle.mono _ _
      | exact spec_AngleText.mono _ _
      | exact spec_DrawAngleText.mono _ _
      | exact spec_DrawLiesOnWay.mono _ _
      | exact spec_DrawReadAngle.mono _ _
      | exact spec_LiesOnWay.mono _ _ _ _
      | exact spec_ReadAngle.mono _ _
      | exact LeO.none _
      | refine LeO.ite ?_ ?_
      | refine LeO.bind ?_ (fun _ => ?_)
    · intro y0 y1 y2 y3
      unfold laws_FnAngleTexts.j2
      repeat' first
      | (with_reducible exact ih0 _ _ _ _ _ _ _ _ _ _ _ _)
      | (with_reducible exact ih1 _ _ _ _ _ _ _ _)
      | (with_reducible exact ih2 _ _ _ _)
      | (with_reducible exact impl_AngleText.mono _ _)
      | (with_reducible exact impl_ReadAngle.mono _ _)
      | (with_reducible exact spec_AngleText.mono _ _)
      | (with_reducible exact spec_DrawAngleText.mono _ _)
      | (with_reducible exact spec_DrawLiesOnWay.mono _ _)
      | (with_reducible exact spec_DrawReadAngle.mono _ _)
      | (with_reducible exact spec_LiesOnWay.mono _ _ _ _)
      | (with_reducible exact spec_ReadAngle.mono _ _)
      | (with_reducible exact LeO.refl _)
      | (with_reducible exact LeO.none _)
      | (with_reducible refine LeO.ite ?_ ?_)
      | (with_reducible refine LeO.bind ?_ (fun _ => ?_))
      | exact ih0 _ _ _ _ _ _ _ _ _ _ _ _
      | exact ih1 _ _ _ _ _ _ _ _
      | exact ih2 _ _ _ _
      | exact impl_AngleText.mono _ _
      | exact impl_ReadAngle.mono _ _
      | exact spec_AngleText.mono _ _
      | exact spec_DrawAngleText.mono _ _
      | exact spec_DrawLiesOnWay.mono _ _
      | exact spec_DrawReadAngle.mono _ _
      | exact spec_LiesOnWay.mono _ _ _ _
      | exact spec_ReadAngle.mono _ _
      | exact LeO.none _
      | refine LeO.ite ?_ ?_
      | refine LeO.bind ?_ (fun _ => ?_)
theorem laws_FnAngleTexts.mono : ∀ a0 k, LeO (laws_FnAngleTexts.f k a0) (laws_FnAngleTexts.f (k + 1) a0) := by
  intro a0 k
  obtain ⟨ih0, ih1, ih2⟩ := laws_FnAngleTexts.mono_l k
  unfold laws_FnAngleTexts.f
  repeat' first
      | (with_reducible exact ih0 _ _ _ _ _ _ _ _ _ _ _ _)
      | (with_reducible exact ih1 _ _ _ _ _ _ _ _)
      | (with_reducible exact ih2 _ _ _ _)
      | (with_reducible exact impl_AngleText.mono _ _)
      | (with_reducible exact impl_ReadAngle.mono _ _)
      | (with_reducible exact spec_AngleText.mono _ _)
      | (with_reducible exact spec_DrawAngleText.mono _ _)
      | (with_reducible exact spec_DrawLiesOnWay.mono _ _)
      | (with_reducible exact spec_DrawReadAngle.mono _ _)
      | (with_reducible exact spec_LiesOnWay.mono _ _ _ _)
      | (with_reducible exact spec_ReadAngle.mono _ _)
      | (with_reducible exact LeO.refl _)
      | (with_reducible exact LeO.none _)
      | (with_reducible refine LeO.ite ?_ ?_)
      | (with_reducible refine LeO.bind ?_ (fun _ => ?_))
      | exact ih0 _ _ _ _ _ _ _ _ _ _ _ _
      | exact ih1 _ _ _ _ _ _ _ _
      | exact ih2 _ _ _ _
      | exact impl_AngleText.mono _ _
      | exact impl_ReadAngle.mono _ _
      | exact spec_AngleText.mono _ _
      | exact spec_DrawAngleText.mono _ _
      | exact spec_DrawLiesOnWay.mono _ _
      | exact spec_DrawReadAngle.mono _ _
      | exact spec_LiesOnWay.mono _ _ _ _
      | exact spec_ReadAngle.mono _ _
      | exact LeO.none _
      | refine LeO.ite ?_ ?_
      | refine LeO.bind ?_ (fun _ => ?_)
set_option maxHeartbeats 8000000 in
set_option maxRecDepth 100000 in
theorem laws_FnAngleTexts.calls (k : Nat) (A0 : Option Addr) (c0 : Nat) (l0 : List Int) (r : Bool) (w : World) (hr0 : Kd.C (Kd.int .u8) w A0 l0.length l0) (hc0 : l0.length ≤ c0) (h : laws_FnAngleTexts.f k l0 = some r) (hT : Aside0 (TabAt w)) :
    Calls Tryd.prog 5 #[.slice A0 l0.length c0] w fun e w' => e = .returned (.bool r) ∧ Below w.heap.size w w' := by
  have HR0 := Aside0.mk hr0
  have HC0 := Aside0.mk hc0
  clear hr0 hc0
  have HB := Aside0.mk (Below.refl w.heap.size w)
  have H : ((laws_big.f l0).bind fun t322 => (if t322 = true then (some true) else ((spec_DrawAngleText.f k l0).bind fun t323 => ((impl_AngleText.f k t323).bind fun bt324 => ((spec_AngleText.f k t323).bind fun bt326 => ((spec_DrawReadAngle.f k l0).bind fun t328 => ((impl_ReadAngle.f k t328).bind fun bt329 => ((spec_ReadAngle.f k t328).bind fun bt331 => ((spec_DrawLiesOnWay.f k l0).bind fun bt333 => ((impl_LiesOnWay.f bt333.1 bt333.2.1 bt333.2.2).bind fun bt336 => ((spec_LiesOnWay.f k bt333.1 bt333.2.1 bt333.2.2).bind fun bt338 => (if bt324.2 = bt326.2 then (if bt324.1.toList = bt326.1.toList then (if bt329.2 = bt331.2 then (if bt329.1 = bt331.1 then (if bt336.2 = bt338.2 then (laws_FnAngleTexts.j0 k t323 bt324.1 bt324.2 t328 bt329.1 bt329.2 bt333.1 bt333.2.1 bt333.2.2 bt336.1 bt336.2 (bt336.1 != bt338.1)) else (laws_FnAngleTexts.j0 k t323 bt324.1 bt324.2 t328 bt329.1 bt329.2 bt333.1 bt333.2.1 bt333.2.2 bt336.1 bt336.2 true)) else (laws_FnAngleTexts.j0 k t323 bt324.1 bt324.2 t328 bt329.1 bt329.2 bt333.1 bt333.2.1 bt333.2.2 bt336.1 bt336.2 true)) else (laws_FnAngleTexts.j0 k t323 bt324.1 bt324.2 t328 bt329.1 bt329.2 bt333.1 bt333.2.1 bt333.2.2 bt336.1 bt336.2 true)) else (laws_FnAngleTexts.j0 k t323 bt324.1 bt324.2 t328 bt329.1 bt329.2 bt333.1 bt333.2.1 bt333.2.2 bt336.1 bt336.2 true)) else (laws_FnAngleTexts.j0 k t323 bt324.1 bt324.2 t328 bt329.1 bt329.2 bt333.1 bt333.2.1 bt333.2.2 bt336.1 bt336.2 true))))))))))))) = some r := h
  clear h
  replace H := Option.bind_eq_some_iff.mp H
  obtain ⟨t322, A20, H⟩ := H
  replace H : (if t322 = true then (some true) else ((spec_DrawAngleText.f k l0).bind fun t323 => ((impl_AngleText.f k t323).bind fun bt324 => ((spec_AngleText.f k t323).bind fun bt326 => ((spec_DrawReadAngle.f k l0).bind fun t328 => ((impl_ReadAngle.f k t328).bind fun bt329 => ((spec_ReadAngle.f k t328).bind fun bt331 => ((spec_DrawLiesOnWay.f k l0).bind fun bt333 => ((impl_LiesOnWay.f bt333.1 bt333.2.1 bt333.2.2).bind fun bt336 => ((spec_LiesOnWay.f k bt333.1 bt333.2.1 bt333.2.2).bind fun bt338 => (if bt324.2 = bt326.2 then (if bt324.1.toList = bt326.1.toList then (if bt329.2 = bt331.2 then (if bt329.1 = bt331.1 then (if bt336.2 = bt338.2 then (laws_FnAngleTexts.j0 k t323 bt324.1 bt324.2 t328 bt329.1 bt329.2 bt333.1 bt333.2.1 bt333.2.2 bt336.1 bt336.2 (bt336.1 != bt338.1)) else (laws_FnAngleTexts.j0 k t323 bt324.1 bt324.2 t328 bt329.1 bt329.2 bt333.1 bt333.2.1 bt333.2.2 bt336.1 bt336.2 true)) else (laws_FnAngleTexts.j0 k t323 bt324.1 bt324.2 t328 bt329.1 bt329.2 bt333.1 bt333.2.1 bt333.2.2 bt336.1 bt336.2 true)) else (laws_FnAngleTexts.j0 k t323 bt324.1 bt324.2 t328 bt329.1 bt329.2 bt333.1 bt333.2.1 bt333.2.2 bt336.1 bt336.2 true)) else (laws_FnAngleTexts.j0 k t323 bt324.1 bt324.2 t328 bt329.1 bt329.2 bt333.1 bt333.2.1 bt333.2.2 bt336.1 bt336.2 true)) else (laws_FnAngleTexts.j0 k t323 bt324.1 bt324.2 t328 bt329.1 bt329.2 bt333.1 bt333.2.1 bt333.2.2 bt336.1 bt336.2 true)))))))))))) = some r := H
  have A2 := Aside0.mk A20
  clear A20
  by_cases c3 : t322 = true
  · subst c3
    have H1 : (some true) = some r := by rw [if_pos rfl] at H; exact H
    clear H
    have H := H1
    clear H1
    obtain rfl := Option.some.inj H
    go_enter Tryd.func5, Tryd.ntmps5
    go_wp2_with (first | ((with_reducible refine gate_callee (f := 6) rfl ?_); refine goesL_ (some 31) rfl rfl Tryd.func6 (by kernel_rfl) rfl #[.slice A0 l0.length c0] rfl (by (try simp only [List.map_toArray, List.map_cons, List.map_nil]); first | done | rfl | (simp only [List.length_drop, List.length_take]; rfl)) ?_; (with_reducible refine (laws_big.calls _ _ l0 true _ ?side1 ?side2 A2.out).mono ?_); (case side1 => repeat (first | exact HR0.out | (with_reducible refine Kd.C_alloc ?_ _) | (with_reducible refine Kd.C_drewN ?_ _) | (with_reducible refine Kd.C_drew ?_))); (case side2 => exact HC0.out); rintro e w' ⟨rfl, ⟨nd, rfl⟩⟩; refine ⟨_, rfl, ?_⟩))
    go_ret
    exact ⟨by first | rfl | (simp [errW_none, errW_some] <;> rfl) | (simp [*, errW_none, errW_some] <;> rfl), by repeat (first | (with_reducible first | exact HB.out | apply below_alloc | apply pw_below_drewN | apply below_drew1) | exact HB.out)⟩
  · replace c3 := Bool.eq_false_iff.mpr c3
    subst c3
    have H1 : ((spec_DrawAngleText.f k l0).bind fun t323 => ((impl_AngleText.f k t323).bind fun bt324 => ((spec_AngleText.f k t323).bind fun bt326 => ((spec_DrawReadAngle.f k l0).bind fun t328 => ((impl_ReadAngle.f k t328).bind fun bt329 => ((spec_ReadAngle.f k t328).bind fun bt331 => ((spec_DrawLiesOnWay.f k l0).bind fun bt333 => ((impl_LiesOnWay.f bt333.1 bt333.2.1 bt333.2.2).bind fun bt336 => ((spec_LiesOnWay.f k bt333.1 bt333.2.1 bt333.2.2).bind fun bt338 => (if bt324.2 = bt326.2 then (if bt324.1.toList = bt326.1.toList then (if bt329.2 = bt331.2 then (if bt329.1 = bt331.1 then (if bt336.2 = bt338.2 then (laws_FnAngleTexts.j0 k t323 bt324.1 bt324.2 t328 bt329.1 bt329.2 bt333.1 bt333.2.1 bt333.2.2 bt336.1 bt336.2 (bt336.1 != bt338.1)) else (laws_FnAngleTexts.j0 k t323 bt324.1 bt324.2 t328 bt329.1 bt329.2 bt333.1 bt333.2.1 bt333.2.2 bt336.1 bt336.2 true)) else (laws_FnAngleTexts.j0 k t323 bt324.1 bt324.2 t328 bt329.1 bt329.2 bt333.1 bt333.2.1 bt333.2.2 bt336.1 bt336.2 true)) else (laws_FnAngleTexts.j0 k t323 bt324.1 bt324.2 t328 bt329.1 bt329.2 bt333.1 bt333.2.1 bt333.2.2 bt336.1 bt336.2 true)) else (laws_FnAngleTexts.j0 k t323 bt324.1 bt324.2 t328 bt329.1 bt329.2 bt333.1 bt333.2.1 bt333.2.2 bt336.1 bt336.2 true)) else (laws_FnAngleTexts.j0 k t323 bt324.1 bt324.2 t328 bt329.1 bt329.2 bt333.1 bt333.2.1 bt333.2.2 bt336.1 bt336.2 true))))))))))) = some r := by rw [if_neg (show ¬ (false = true) by decide)] at H; exact H
    clear H
    have H := H1
    clear H1
    replace H := Option.bind_eq_some_iff.mp H
    obtain ⟨t323, A40, H⟩ := H
    replace H : ((impl_AngleText.f k t323).bind fun bt324 => ((spec_AngleText.f k t323).bind fun bt326 => ((spec_DrawReadAngle.f k l0).bind fun t328 => ((impl_ReadAngle.f k t328).bind fun bt329 => ((spec_ReadAngle.f k t328).bind fun bt331 => ((spec_DrawLiesOnWay.f k l0).bind fun bt333 => ((impl_LiesOnWay.f bt333.1 bt333.2.1 bt333.2.2).bind fun bt336 => ((spec_LiesOnWay.f k bt333.1 bt333.2.1 bt333.2.2).bind fun bt338 => (if bt324.2 = bt326.2 then (if bt324.1.toList = bt326.1.toList then (if bt329.2 = bt331.2 then (if bt329.1 = bt331.1 then (if bt336.2 = bt338.2 then (laws_FnAngleTexts.j0 k t323 bt324.1 bt324.2 t328 bt329.1 bt329.2 bt333.1 bt333.2.1 bt333.2.2 bt336.1 bt336.2 (bt336.1 != bt338.1)) else (laws_FnAngleTexts.j0 k t323 bt324.1 bt324.2 t328 bt329.1 bt329.2 bt333.1 bt333.2.1 bt333.2.2 bt336.1 bt336.2 true)) else (laws_FnAngleTexts.j0 k t323 bt324.1 bt324.2 t328 bt329.1 bt329.2 bt333.1 bt333.2.1 bt333.2.2 bt336.1 bt336.2 true)) else (laws_FnAngleTexts.j0 k t323 bt324.1 bt324.2 t328 bt329.1 bt329.2 bt333.1 bt333.2.1 bt333.2.2 bt336.1 bt336.2 true)) else (laws_FnAngleTexts.j0 k t323 bt324.1 bt324.2 t328 bt329.1 bt329.2 bt333.1 bt333.2.1 bt333.2.2 bt336.1 bt336.2 true)) else (laws_FnAngleTexts.j0 k t323 bt324.1 bt324.2 t328 bt329.1 bt329.2 bt333.1 bt333.2.1 bt333.2.2 bt336.1 bt336.2 true)))))))))) = some r := H
    have A4 := Aside0.mk A40
    clear A40
    replace H := Option.bind_eq_some_iff.mp H
    obtain ⟨⟨t324, t325⟩, A50, H⟩ := H
    replace H : ((spec_AngleText.f k t323).bind fun bt326 => ((spec_DrawReadAngle.f k l0).bind fun t328 => ((impl_ReadAngle.f k t328).bind fun bt329 => ((spec_ReadAngle.f k t328).bind fun bt331 => ((spec_DrawLiesOnWay.f k l0).bind fun bt333 => ((impl_LiesOnWay.f bt333.1 bt333.2.1 bt333.2.2).bind fun bt336 => ((spec_LiesOnWay.f k bt333.1 bt333.2.1 bt333.2.2).bind fun bt338 => (if t325 = bt326.2 then (if t324.toList = bt326.1.toList then (if bt329.2 = bt331.2 then (if bt329.1 = bt331.1 then (if bt336.2 = bt338.2 then (laws_FnAngleTexts.j0 k t323 t324 t325 t328 bt329.1 bt329.2 bt333.1 bt333.2.1 bt333.2.2 bt336.1 bt336.2 (bt336.1 != bt338.1)) else (laws_FnAngleTexts.j0 k t323 t324 t325 t328 bt329.1 bt329.2 bt333.1 bt333.2.1 bt333.2.2 bt336.1 bt336.2 true)) else (laws_FnAngleTexts.j0 k t323 t324 t325 t328 bt329.1 bt329.2 bt333.1 bt333.2.1 bt333.2.2 bt336.1 bt336.2 true)) else (laws_FnAngleTexts.j0 k t323 t324 t325 t328 bt329.1 bt329.2 bt333.1 bt333.2.1 bt333.2.2 bt336.1 bt336.2 true)) else (laws_FnAngleTexts.j0 k t323 t324 t325 t328 bt329.1 bt329.2 bt333.1 bt333.2.1 bt333.2.2 bt336.1 bt336.2 true)) else (laws_FnAngleTexts.j0 k t323 t324 t325 t328 bt329.1 bt329.2 bt333.1 bt333.2.1 bt333.2.2 bt336.1 bt336.2 true))))))))) = some r := H
    have A5 := Aside0.mk A50
    clear A50
    replace H := Option.bind_eq_some_iff.mp H
    obtain ⟨⟨t326, t327⟩, A60, H⟩ := H
    replace H : ((spec_DrawReadAngle.f k l0).bind fun t328 => ((impl_ReadAngle.f k t328).bind fun bt329 => ((spec_ReadAngle.f k t328).bind fun bt331 => ((spec_DrawLiesOnWay.f k l0).bind fun bt333 => ((impl_LiesOnWay.f bt333.1 bt333.2.1 bt333.2.2).bind fun bt336 => ((spec_LiesOnWay.f k bt333.1 bt333.2.1 bt333.2.2).bind fun bt338 => (if t325 = t327 then (if t324.toList = t326.toList then (if bt329.2 = bt331.2 then (if bt329.1 = bt331.1 then (if bt336.2 = bt338.2 then (laws_FnAngleTexts.j0 k t323 t324 t325 t328 bt329.1 bt329.2 bt333.1 bt333.2.1 bt333.2.2 bt336.1 bt336.2 (bt336.1 != bt338.1)) else (laws_FnAngleTexts.j0 k t323 t324 t325 t328 bt329.1 bt329.2 bt333.1 bt333.2.1 bt333.2.2 bt336.1 bt336.2 true)) else (laws_FnAngleTexts.j0 k t323 t324 t325 t328 bt329.1 bt329.2 bt333.1 bt333.2.1 bt333.2.2 bt336.1 bt336.2 true)) else (laws_FnAngleTexts.j0 k t323 t324 t325 t328 bt329.1 bt329.2 bt333.1 bt333.2.1 bt333.2.2 bt336.1 bt336.2 true)) else (laws_FnAngleTexts.j0 k t323 t324 t325 t328 bt329.1 bt329.2 bt333.1 bt333.2.1 bt333.2.2 bt336.1 bt336.2 true)) else (laws_FnAngleTexts.j0 k t323 t324 t325 t328 bt329.1 bt329.2 bt333.1 bt333.2.1 bt333.2.2 bt336.1 bt336.2 true)))))))) = some r := H
    have A6 := Aside0.mk A60
    clear A60
    replace H := Option.bind_eq_some_iff.mp H
    obtain ⟨t328, A70, H⟩ := H
    replace H : ((impl_ReadAngle.f k t328).bind fun bt329 => ((spec_ReadAngle.f k t328).bind fun bt331 => ((spec_DrawLiesOnWay.f k l0).bind fun bt333 => ((impl_LiesOnWay.f bt333.1 bt333.2.1 bt333.2.2).bind fun bt336 => ((spec_LiesOnWay.f k bt333.1 bt333.2.1 bt333.2.2).bind fun bt338 => (if t325 = t327 then (if t324.toList = t326.toList then (if bt329.2 = bt331.2 then (if bt329.1 = bt331.1 then (if bt336.2 = bt338.2 then (laws_FnAngleTexts.j0 k t323 t324 t325 t328 bt329.1 bt329.2 bt333.1 bt333.2.1 bt333.2.2 bt336.1 bt336.2 (bt336.1 != bt338.1)) else (laws_FnAngleTexts.j0 k t323 t324 t325 t328 bt329.1 bt329.2 bt333.1 bt333.2.1 bt333.2.2 bt336.1 bt336.2 true)) else (laws_FnAngleTexts.j0 k t323 t324 t325 t328 bt329.1 bt329.2 bt333.1 bt333.2.1 bt333.2.2 bt336.1 bt336.2 true)) else (laws_FnAngleTexts.j0 k t323 t324 t325 t328 bt329.1 bt329.2 bt333.1 bt333.2.1 bt333.2.2 bt336.1 bt336.2 true)) else (laws_FnAngleTexts.j0 k t323 t324 t325 t328 bt329.1 bt329.2 bt333.1 bt333.2.1 bt333.2.2 bt336.1 bt336.2 true)) else (laws_FnAngleTexts.j0 k t323 t324 t325 t328 bt329.1 bt329.2 bt333.1 bt333.2.1 bt333.2.2 bt336.1 bt336.2 true))))))) = some r := H
    have A7 := Aside0.mk A70
    clear A70
    replace H := Option.bind_eq_some_iff.mp H
    obtain ⟨⟨t329, t330⟩, A80, H⟩ := H
    replace H : ((spec_ReadAngle.f k t328).bind fun bt331 => ((spec_DrawLiesOnWay.f k l0).bind fun bt333 => ((impl_LiesOnWay.f bt333.1 bt333.2.1 bt333.2.2).bind fun bt336 => ((spec_LiesOnWay.f k bt333.1 bt333.2.1 bt333.2.2).bind fun bt338 => (if t325 = t327 then (if t324.toList = t326.toList then (if t330 = bt331.2 then (if t329 = bt331.1 then (if bt336.2 = bt338.2 then (laws_FnAngleTexts.j0 k t323 t324 t325 t328 t329 t330 bt333.1 bt333.2.1 bt333.2.2 bt336.1 bt336.2 (bt336.1 != bt338.1)) else (laws_FnAngleTexts.j0 k t323 t324 t325 t328 t329 t330 bt333.1 bt333.2.1 bt333.2.2 bt336.1 bt336.2 true)) else (laws_FnAngleTexts.j0 k t323 t324 t325 t328 t329 t330 bt333.1 bt333.2.1 bt333.2.2 bt336.1 bt336.2 true)) else (laws_FnAngleTexts.j0 k t323 t324 t325 t328 t329 t330 bt333.1 bt333.2.1 bt333.2.2 bt336.1 bt336.2 true)) else (laws_FnAngleTexts.j0 k t323 t324 t325 t328 t329 t330 bt333.1 bt333.2.1 bt333.2.2 bt336.1 bt336.2 true)) else (laws_FnAngleTexts.j0 k t323 t324 t325 t328 t329 t330 bt333.1 bt333.2.1 bt333.2.2 bt336.1 bt336.2 true)))))) = some r := H
    have A8 := Aside0.mk A80
    clear A80
    replace H := Option.bind_eq_some_iff.mp H
    obtain ⟨⟨t331, t332⟩, A90, H⟩ := H
    replace H : ((spec_DrawLiesOnWay.f k l0).bind fun bt333 => ((impl_LiesOnWay.f bt333.1 bt333.2.1 bt333.2.2).bind fun bt336 => ((spec_LiesOnWay.f k bt333.1 bt333.2.1 bt333.2.2).bind fun bt338 => (if t325 = t327 then (if t324.toList = t326.toList then (if t330 = t332 then (if t329 = t331 then (if bt336.2 = bt338.2 then (laws_FnAngleTexts.j0 k t323 t324 t325 t328 t329 t330 bt333.1 bt333.2.1 bt333.2.2 bt336.1 bt336.2 (bt336.1 != bt338.1)) else (laws_FnAngleTexts.j0 k t323 t324 t325 t328 t329 t330 bt333.1 bt333.2.1 bt333.2.2 bt336.1 bt336.2 true)) else (laws_FnAngleTexts.j0 k t323 t324 t325 t328 t329 t330 bt333.1 bt333.2.1 bt333.2.2 bt336.1 bt336.2 true)) else (laws_FnAngleTexts.j0 k t323 t324 t325 t328 t329 t330 bt333.1 bt333.2.1 bt333.2.2 bt336.1 bt336.2 true)) else (laws_FnAngleTexts.j0 k t323 t324 t325 t328 t329 t330 bt333.1 bt333.2.1 bt333.2.2 bt336.1 bt336.2 true)) else (laws_FnAngleTexts.j0 k t323 t324 t325 t328 t329 t330 bt333.1 bt333.2.1 bt333.2.2 bt336.1 bt336.2 true))))) = some r := H
    have A9 := Aside0.mk A90
    clear A90
    replace H := Option.bind_eq_some_iff.mp H
    obtain ⟨⟨t333, t334, t335⟩, A100, H⟩ := H
    replace H : ((impl_LiesOnWay.f t333 t334 t335).bind fun bt336 => ((spec_LiesOnWay.f k t333 t334 t335).bind fun bt338 => (if t325 = t327 then (if t324.toList = t326.toList then (if t330 = t332 then (if t329 = t331 then (if bt336.2 = bt338.2 then (laws_FnAngleTexts.j0 k t323 t324 t325 t328 t329 t330 t333 t334 t335 bt336.1 bt336.2 (bt336.1 != bt338.1)) else (laws_FnAngleTexts.j0 k t323 t324 t325 t328 t329 t330 t333 t334 t335 bt336.1 bt336.2 true)) else (laws_FnAngleTexts.j0 k t323 t324 t325 t328 t329 t330 t333 t334 t335 bt336.1 bt336.2 true)) else (laws_FnAngleTexts.j0 k t323 t324 t325 t328 t329 t330 t333 t334 t335 bt336.1 bt336.2 true)) else (laws_FnAngleTexts.j0 k t323 t324 t325 t328 t329 t330 t333 t334 t335 bt336.1 bt336.2 true)) else (laws_FnAngleTexts.j0 k t323 t324 t325 t328 t329 t330 t333 t334 t335 bt336.1 bt336.2 true)))) = some r := H
    have A10 := Aside0.mk A100
    clear A100
    replace H := Option.bind_eq_some_iff.mp H
    obtain ⟨⟨t336, t337⟩, A110, H⟩ := H
    replace H : ((spec_LiesOnWay.f k t333 t334 t335).bind fun bt338 => (if t325 = t327 then (if t324.toList = t326.toList then (if t330 = t332 then (if t329 = t331 then (if t337 = bt338.2 then (laws_FnAngleTexts.j0 k t323 t324 t325 t328 t329 t330 t333 t334 t335 t336 t337 (t336 != bt338.1)) else (laws_FnAngleTexts.j0 k t323 t324 t325 t328 t329 t330 t333 t334 t335 t336 t337 true)) else (laws_FnAngleTexts.j0 k t323 t324 t325 t328 t329 t330 t333 t334 t335 t336 t337 true)) else (laws_FnAngleTexts.j0 k t323 t324 t325 t328 t329 t330 t333 t334 t335 t336 t337 true)) else (laws_FnAngleTexts.j0 k t323 t324 t325 t328 t329 t330 t333 t334 t335 t336 t337 true)) else (laws_FnAngleTexts.j0 k t323 t324 t325 t328 t329 t330 t333 t334 t335 t336 t337 true))) = some r := H
    have A11 := Aside0.mk A110
    clear A110
    replace H := Option.bind_eq_some_iff.mp H
    obtain ⟨⟨t338, t339⟩, A120, H⟩ := H
    replace H : (if t325 = t327 then (if t324.toList = t326.toList then (if t330 = t332 then (if t329 = t331 then (if t337 = t339 then (laws_FnAngleTexts.j0 k t323 t324 t325 t328 t329 t330 t333 t334 t335 t336 t337 (t336 != t338)) else (laws_FnAngleTexts.j0 k t323 t324 t325 t328 t329 t330 t333 t334 t335 t336 t337 true)) else (laws_FnAngleTexts.j0 k t323 t324 t325 t328 t329 t330 t333 t334 t335 t336 t337 true)) else (laws_FnAngleTexts.j0 k t323 t324 t325 t328 t329 t330 t333 t334 t335 t336 t337 true)) else (laws_FnAngleTexts.j0 k t323 t324 t325 t328 t329 t330 t333 t334 t335 t336 t337 true)) else (laws_FnAngleTexts.j0 k t323 t324 t325 t328 t329 t330 t333 t334 t335 t336 t337 true)) = some r := H
    have A12 := Aside0.mk A120
    clear A120
    have HC13 := Aside0.mk H
    clear H
    go_enter Tryd.func5, Tryd.ntmps5
    go_upto_region 12 with (first | ((with_reducible refine gate_callee (f := 6) rfl ?_); refine goesL_ (some 31) rfl rfl Tryd.func6 (by kernel_rfl) rfl #[.slice A0 l0.length c0] rfl (by (try simp only [List.map_toArray, List.map_cons, List.map_nil]); first | done | rfl | (simp only [List.length_drop, List.length_take]; rfl)) ?_; (with_reducible refine (laws_big.calls _ _ l0 false _ ?side1 ?side2 A2.out).mono ?_); (case side1 => repeat (first | exact HR0.out | (with_reducible refine Kd.C_alloc ?_ _) | (with_reducible refine Kd.C_drewN ?_ _) | (with_reducible refine Kd.C_drew ?_))); (case side2 => exact HC0.out); rintro e w' ⟨rfl, ⟨nd, rfl⟩⟩; refine ⟨_, rfl, ?_⟩) | ((with_reducible refine gate_callee (f := 27) rfl ?_); refine goesL_ (some 33) rfl rfl Tryd.func27 (by kernel_rfl) rfl #[.slice A0 l0.length c0] rfl (by (try simp only [List.map_toArray, List.map_cons, List.map_nil]); first | done | rfl | (simp only [List.length_drop, List.length_take]; rfl)) ?_; (with_reducible refine (spec_DrawAngleText.calls k _ _ l0 t323 _ ?side1 ?side2 A4.out).mono ?_); (case side1 => repeat (first | exact HR0.out | (with_reducible refine Kd.C_alloc ?_ _) | (with_reducible refine Kd.C_drewN ?_ _) | (with_reducible refine Kd.C_drew ?_))); (case side2 => exact HC0.out); rintro e w14 ⟨rfl, hb⟩; refine ⟨_, rfl, ?_⟩; have n0_ := Aside0.mk (below_step (by repeat (first | (with_reducible first | exact HB.out | apply below_alloc | apply pw_below_drewN | apply below_drew1) | exact HB.out)) hb); clear HB; have HB := n0_; clear n0_; (try clear hb); (try clear hb2); (try clear hk); (try clear hi)) | ((with_reducible refine gate_callee (f := 28) rfl ?_); refine goesL_ (some 36) rfl rfl Tryd.func28 (by kernel_rfl) rfl #[.int .i64 t323] rfl (by (try simp only [List.map_toArray, List.map_cons, List.map_nil]); first | done | rfl | (simp only [List.length_drop, List.length_take]; rfl)) ?_; (with_reducible refine (impl_AngleText.calls k t323 t324 t325 _ A5.out (tabAt_on hT (by repeat (first | (with_reducible first | exact HB.out | apply below_alloc | apply pw_below_drewN | apply below_drew1 | refine below_set ?_ (Aside0.out (by assumption))) | exact HB.out)))).mono ?_); rintro e w15 ⟨rfl, hb⟩; refine ⟨_, rfl, ?_⟩; have n0_ := Aside0.mk (below_step (by repeat (first | (with_reducible first | exact HB.out | apply below_alloc | apply pw_below_drewN | apply below_drew1) | exact HB.out)) hb); clear HB; have HB := n0_; clear n0_; (try clear hb); (try clear hb2); (try clear hk); (try clear hi)) | ((with_reducible refine gate_callee (f := 29) rfl ?_); refine goesL_ (some 41) rfl rfl Tryd.func29 (by kernel_rfl) rfl #[.int .i64 t323] rfl (by (try simp only [List.map_toArray, List.map_cons, List.map_nil]); first | done | rfl | (simp only [List.length_drop, List.length_take]; rfl)) ?_; (with_reducible refine (spec_AngleText.calls k t323 t326 t327 _ A6.out).mono ?_); rintro e w16 ⟨rfl, hb⟩; refine ⟨_, rfl, ?_⟩; have n0_ := Aside0.mk (below_step (by repeat (first | (with_reducible first | exact HB.out | apply below_alloc | apply pw_below_drewN | apply below_drew1) | exact HB.out)) hb); clear HB; have HB := n0_; clear n0_; (try clear hb); (try clear hb2); (try clear hk); (try clear hi)) | ((with_reducible refine gate_callee (f := 30) rfl ?_); refine goesL_ (some 45) rfl rfl Tryd.func30 (by kernel_rfl) rfl #[.slice A0 l0.length c0] rfl (by (try simp only [List.map_toArray, List.map_cons, List.map_nil]); first | done | rfl | (simp only [List.length_drop, List.length_take]; rfl)) ?_; (with_reducible refine (spec_DrawReadAngle.calls k _ _ l0 t328 _ ?side1 ?side2 A7.out).mono ?_); (case side1 => repeat (first | exact (Kd.C_below HR0.out HB.out) | (with_reducible refine Kd.C_alloc ?_ _) | (with_reducible refine Kd.C_drewN ?_ _) | (with_reducible refine Kd.C_drew ?_))); (case side2 => exact HC0.out); rintro e w17 ⟨rfl, hb⟩; refine ⟨_, rfl, ?_⟩; have n0_ := Aside0.mk (below_step (by repeat (first | (with_reducible first | exact HB.out | apply below_alloc | apply pw_below_drewN | apply below_drew1) | exact HB.out)) hb); clear HB; have HB := n0_; clear n0_; (try clear hb); (try clear hb2); (try clear hk); (try clear hi)) | ((with_reducible refine gate_callee (f := 31) rfl ?_); refine goesL_ (some 48) rfl rfl Tryd.func31 (by kernel_rfl) rfl #[.string t328] rfl (by (try simp only [List.map_toArray, List.map_cons, List.map_nil]); first | done | rfl | (simp only [List.length_drop, List.length_take]; rfl)) ?_; (with_reducible refine (impl_ReadAngle.calls k t328 t329 t330 _ A8.out (tabAt_on hT (by repeat (first | (with_reducible first | exact HB.out | apply below_alloc | apply pw_below_drewN | apply below_drew1 | refine below_set ?_ (Aside0.out (by assumption))) | exact HB.out)))).mono ?_); rintro e w18 ⟨rfl, hb⟩; refine ⟨_, rfl, ?_⟩; have n0_ := Aside0.mk (below_step (by repeat (first | (with_reducible first | exact HB.out | apply below_alloc | apply pw_below_drewN | apply below_drew1) | exact HB.out)) hb); clear HB; have HB := n0_; clear n0_; (try clear hb); (try clear hb2); (try clear hk); (try clear hi)) | ((with_reducible refine gate_callee (f := 32) rfl ?_); refine goesL_ (some 53) rfl rfl Tryd.func32 (by kernel_rfl) rfl #[.string t328] rfl (by (try simp only [List.map_toArray, List.map_cons, List.map_nil]); first | done | rfl | (simp only [List.length_drop, List.length_take]; rfl)) ?_; (with_reducible refine (spec_ReadAngle.calls k t328 t331 t332 _ A9.out).mono ?_); rintro e w19 ⟨rfl, hb⟩; refine ⟨_, rfl, ?_⟩; have n0_ := Aside0.mk (below_step (by repeat (first | (with_reducible first | exact HB.out | apply below_alloc | apply pw_below_drewN | apply below_drew1) | exact HB.out)) hb); clear HB; have HB := n0_; clear n0_; (try clear hb); (try clear hb2); (try clear hk); (try clear hi)) | ((with_reducible refine gate_callee (f := 33) rfl ?_); refine goesL_ (some 58) rfl rfl Tryd.func33 (by kernel_rfl) rfl #[.slice A0 l0.length c0] rfl (by (try simp only [List.map_toArray, List.map_cons, List.map_nil]); first | done | rfl | (simp only [List.length_drop, List.length_take]; rfl)) ?_; (with_reducible refine (spec_DrawLiesOnWay.calls k _ _ l0 t333 t334 t335 _ ?side1 ?side2 A10.out).mono ?_); (case side1 => repeat (first | exact (Kd.C_below HR0.out HB.out) | (with_reducible refine Kd.C_alloc ?_ _) | (with_reducible refine Kd.C_drewN ?_ _) | (with_reducible refine Kd.C_drew ?_))); (case side2 => exact HC0.out); rintro e w20 ⟨rfl, hb⟩; refine ⟨_, rfl, ?_⟩; have n0_ := Aside0.mk (below_step (by repeat (first | (with_reducible first | exact HB.out | apply below_alloc | apply pw_below_drewN | apply below_drew1) | exact HB.out)) hb); clear HB; have HB := n0_; clear n0_; (try clear hb); (try clear hb2); (try clear hk); (try clear hi)) | ((with_reducible refine gate_callee (f := 34) rfl ?_); refine goesL_ (some 66) rfl rfl Tryd.func34 (by kernel_rfl) rfl #[.int .i64 t333, .int .i64 t334, .int .i64 t335] rfl (by (try simp only [List.map_toArray, List.map_cons, List.map_nil]); first | done | rfl | (simp only [List.length_drop, List.length_take]; rfl)) ?_; (with_reducible refine (impl_LiesOnWay.calls t333 t334 t335 t336 t337 _ A11.out).mono ?_); rintro e w' ⟨rfl, ⟨nd, rfl⟩⟩; refine ⟨_, rfl, ?_⟩) | ((with_reducible refine gate_callee (f := 35) rfl ?_); refine goesL_ (some 73) rfl rfl Tryd.func35 (by kernel_rfl) rfl #[.int .i64 t333, .int .i64 t334, .int .i64 t335] rfl (by (try simp only [List.map_toArray, List.map_cons, List.map_nil]); first | done | rfl | (simp only [List.length_drop, List.length_take]; rfl)) ?_; (with_reducible refine (spec_LiesOnWay.calls k t333 t334 t335 t338 t339 _ A12.out).mono ?_); rintro e w' ⟨rfl, ⟨nd, rfl⟩⟩; refine ⟨_, rfl, ?_⟩))
    (try simp only [Act.put, List.setIfInBounds_toArray, List.set_cons_zero, List.set_cons_succ])
    go_cut [103] (fun v103 wc => ∃ (kq : Nat) (x103_12 : Bool), v103 = .bool x103_12 ∧ Aside0 (laws_FnAngleTexts.j0 kq t323 t324 t325 t328 t329 t330 t333 t334 t335 t336 t337 x103_12 = some r) ∧ Aside0 (kq ≤ k) ∧ Aside0 (Below w.heap.size w wc))
    case first =>
      have H := HC13.out
      clear HC13
      by_cases c21 : t325 = t327
      · rw [if_pos c21] at H
        have c21b0 : (t325 == t327) = true := beq_iff_eq.mpr c21
        have c21b1 : (t325 != t327) = false := bne_eq_false_iff_eq.mpr c21
        clear c21
        (first | rw [c21b0] | (simp only [i64_w, i32_w]; rw [c21b0]) | skip)
        by_cases c22 : t324.toList = t326.toList
        · rw [if_pos c22] at H
          have c22b0 : (t324.toList == t326.toList) = true := beq_iff_eq.mpr c22
          have c22b1 : (t324.toList != t326.toList) = false := bne_eq_false_iff_eq.mpr c22
          clear c22
          by_cases c23 : t330 = t332
          · rw [if_pos c23] at H
            have c23b0 : (t330 == t332) = true := beq_iff_eq.mpr c23
            have c23b1 : (t330 != t332) = false := bne_eq_false_iff_eq.mpr c23
            clear c23
            by_cases c24 : t329 = t331
            · rw [if_pos c24] at H
              have c24b0 : (t329 == t331) = true := beq_iff_eq.mpr c24
              have c24b1 : (t329 != t331) = false := bne_eq_false_iff_eq.mpr c24
              clear c24
              by_cases c25 : t337 = t339
              · rw [if_pos c25] at H
                have c25b0 : (t337 == t339) = true := beq_iff_eq.mpr c25
                have c25b1 : (t337 != t339) = false := bne_eq_false_iff_eq.mpr c25
                clear c25
                have H' := Aside0.mk H
                clear H
                go_wp2
                go_meet
                case rel => exact ⟨_, ((t336 != t338)), (by first | rfl | (simp; done) | (simp [*]; done)), H', ⟨by first | omega | exact Nat.le_refl _⟩, ⟨by repeat (first | (with_reducible first | exact HB.out | apply below_alloc | apply pw_below_drewN | apply below_drew1) | exact HB.out)⟩⟩
              · rw [if_neg c25] at H
                have c25b0 : (t337 == t339) = false := beq_eq_false_iff_ne.mpr c25
                have c25b1 : (t337 != t339) = true := bne_iff_ne.mpr c25
                have H' := Aside0.mk H
                clear H
                go_wp2
                go_meet
                case rel => exact ⟨_, (true), (by first | rfl | (simp; done) | (simp [*]; done)), H', ⟨by first | omega | exact Nat.le_refl _⟩, ⟨by repeat (first | (with_reducible first | exact HB.out | apply below_alloc | apply pw_below_drewN | apply below_drew1) | exact HB.out)⟩⟩
            · rw [if_neg c24] at H
              have c24b0 : (t329 == t331) = false := beq_eq_false_iff_ne.mpr c24
              have c24b1 : (t329 != t331) = true := bne_iff_ne.mpr c24
              have H' := Aside0.mk H
              clear H
              go_wp2
              go_meet
              case rel => exact ⟨_, (true), (by first | rfl | (simp; done) | (simp [*]; done)), H', ⟨by first | omega | exact Nat.le_refl _⟩, ⟨by repeat (first | (with_reducible first | exact HB.out | apply below_alloc | apply pw_below_drewN | apply below_drew1) | exact HB.out)⟩⟩
          · rw [if_neg c23] at H
            have c23b0 : (t330 == t332) = false := beq_eq_false_iff_ne.mpr c23
            have c23b1 : (t330 != t332) = true := bne_iff_ne.mpr c23
            have H' := Aside0.mk H
            clear H
            go_wp2
            go_meet
            case rel => exact ⟨_, (true), (by first | rfl | (simp; done) | (simp [*]; done)), H', ⟨by first | omega | exact Nat.le_refl _⟩, ⟨by repeat (first | (with_reducible first | exact HB.out | apply below_alloc | apply pw_below_drewN | apply below_drew1) | exact HB.out)⟩⟩
        · rw [if_neg c22] at H
          have c22b0 : (t324.toList == t326.toList) = false := beq_eq_false_iff_ne.mpr c22
          have c22b1 : (t324.toList != t326.toList) = true := bne_iff_ne.mpr c22
          have H' := Aside0.mk H
          clear H
          go_wp2
          go_meet
          case rel => exact ⟨_, (true), (by first | rfl | (simp; done) | (simp [*]; done)), H', ⟨by first | omega | exact Nat.le_refl _⟩, ⟨by repeat (first | (with_reducible first | exact HB.out | apply below_alloc | apply pw_below_drewN | apply below_drew1) | exact HB.out)⟩⟩
      · rw [if_neg c21] at H
        have c21b0 : (t325 == t327) = false := beq_eq_false_iff_ne.mpr c21
        have c21b1 : (t325 != t327) = true := bne_iff_ne.mpr c21
        (first | rw [c21b0] | (simp only [i64_w, i32_w]; rw [c21b0]) | skip)
        have H' := Aside0.mk H
        clear H
        go_wp2
        go_meet
        case rel => exact ⟨_, (true), (by first | rfl | (simp; done) | (simp [*]; done)), H', ⟨by first | omega | exact Nat.le_refl _⟩, ⟨by repeat (first | (with_reducible first | exact HB.out | apply below_alloc | apply pw_below_drewN | apply below_drew1) | exact HB.out)⟩⟩
    case rest =>
      clear HC13
      try clear c2
      try clear p2
      try clear c3
      try clear c5
      try clear c6
      try clear c21
      try clear c21b0
      try clear c21b1
      try clear c22
      try clear c22b0
      try clear c22b1
      try clear c23
      try clear c23b0
      try clear c23b1
      try clear c24
      try clear c24b0
      try clear c24b1
      try clear c25
      try clear c25b0
      try clear c25b1
      obtain ⟨kq, x103_12, rfl, HA, HJ12, HB⟩ := hcut
      cases kq with
      | zero => exact absurd HA.out (by simp [laws_FnAngleTexts.j0])
      | succ kj12 =>
        have H := HA.out
        clear HA
        simp only [laws_FnAngleTexts.j0] at H
        by_cases c26 : x103_12 = true
        · subst c26
          have H1 : (some false) = some r := by rw [if_pos rfl] at H; exact H
          clear H
          have H := H1
          clear H1
          obtain rfl := Option.some.inj H
          go_wp2
          go_ret
          exact ⟨by first | rfl | (simp [errW_none, errW_some] <;> rfl) | (simp [*, errW_none, errW_some] <;> rfl), by repeat (first | (with_reducible first | exact HB.out | apply below_alloc | apply pw_below_drewN | apply below_drew1) | exact HB.out)⟩
        · replace c26 := Bool.eq_false_iff.mpr c26
          subst c26
          have H1 : (if t330 = 0 then ((impl_AngleText.f kj12 t329).bind fun bt340 => (if bt340.2 = 0 then (if bt340.1.toList = t328.toList then (laws_FnAngleTexts.j1 kj12 t323 t324 t325 t333 t334 t335 t336 t337) else (some false)) else (some false))) else (laws_FnAngleTexts.j1 kj12 t323 t324 t325 t333 t334 t335 t336 t337)) = some r := by rw [if_neg (show ¬ (false = true) by decide)] at H; exact H
          clear H
          have H := H1
          clear H1
          have HC27 := Aside0.mk H
          clear H
          go_upto_if 105 with (fail)
          go_cut [] (fun wc => ∃ (kq : Nat), Aside0 (laws_FnAngleTexts.j1 kq t323 t324 t325 t333 t334 t335 t336 t337 = some r) ∧ Aside0 (kq ≤ kj12) ∧ Aside0 (Below w.heap.size w wc))
          case first =>
            have H := HC27.out
            clear HC27
            by_cases c28 : t330 = 0
            · rw [if_pos c28] at H
              have c28b0 : (t330 == 0) = true := beq_iff_eq.mpr c28
              have c28b1 : (t330 != 0) = false := bne_eq_false_iff_eq.mpr c28
              clear c28
              (first | rw [c28b0] | (simp only [i64_w, i32_w]; rw [c28b0]) | skip)
              replace H := Option.bind_eq_some_iff.mp H
              obtain ⟨⟨t340, t341⟩, A290, H⟩ := H
              replace H : (if t341 = 0 then (if t340.toList = t328.toList then (laws_FnAngleTexts.j1 kj12 t323 t324 t325 t333 t334 t335 t336 t337) else (some false)) else (some false)) = some r := H
              have A29 := Aside0.mk A290
              clear A290
              by_cases c30 : t341 = 0
              · rw [if_pos c30] at H
                have c30b0 : (t341 == 0) = true := beq_iff_eq.mpr c30
                have c30b1 : (t341 != 0) = false := bne_eq_false_iff_eq.mpr c30
                clear c30
                by_cases c31 : t340.toList = t328.toList
                · rw [if_pos c31] at H
                  have c31b0 : (t340.toList == t328.toList) = true := beq_iff_eq.mpr c31
                  have c31b1 : (t340.toList != t328.toList) = false := bne_eq_false_iff_eq.mpr c31
                  clear c31
                  have H' := Aside0.mk H
                  clear H
                  go_wp2_with (first | ((with_reducible refine gate_callee (f := 28) rfl ?_); refine goesL_ (some 108) rfl rfl Tryd.func28 (by kernel_rfl) rfl #[.int .i64 t329] rfl (by (try simp only [List.map_toArray, List.map_cons, List.map_nil]); first | done | rfl | (simp only [List.length_drop, List.length_take]; rfl)) ?_; (with_reducible refine (impl_AngleText.calls kj12 t329 t340 t341 _ A29.out (tabAt_on hT (by repeat (first | (with_reducible first | exact HB.out | apply below_alloc | apply pw_below_drewN | apply below_drew1 | refine below_set ?_ (Aside0.out (by assumption))) | exact HB.out)))).mono ?_); rintro e w32 ⟨rfl, hb⟩; refine ⟨_, rfl, ?_⟩; have n0_ := Aside0.mk (below_step (by repeat (first | (with_reducible first | exact HB.out | apply below_alloc | apply pw_below_drewN | apply below_drew1) | exact HB.out)) hb); clear HB; have HB := n0_; clear n0_; (try clear hb); (try clear hb2); (try clear hk); (try clear hi)))
                  go_meet
                  case rel => exact ⟨_, H', ⟨by have := HJ12.out; first | omega | exact Nat.le_refl _⟩, ⟨by repeat (first | (with_reducible first | exact HB.out | apply below_alloc | apply pw_below_drewN | apply below_drew1) | exact HB.out)⟩⟩
                · rw [if_neg c31] at H
                  have c31b0 : (t340.toList == t328.toList) = false := beq_eq_false_iff_ne.mpr c31
                  have c31b1 : (t340.toList != t328.toList) = true := bne_iff_ne.mpr c31
                  obtain rfl := Option.some.inj H
                  go_wp2_with (first | ((with_reducible refine gate_callee (f := 28) rfl ?_); refine goesL_ (some 108) rfl rfl Tryd.func28 (by kernel_rfl) rfl #[.int .i64 t329] rfl (by (try simp only [List.map_toArray, List.map_cons, List.map_nil]); first | done | rfl | (simp only [List.length_drop, List.length_take]; rfl)) ?_; (with_reducible refine (impl_AngleText.calls kj12 t329 t340 t341 _ A29.out (tabAt_on hT (by repeat (first | (with_reducible first | exact HB.out | apply below_alloc | apply pw_below_drewN | apply below_drew1 | refine below_set ?_ (Aside0.out (by assumption))) | exact HB.out)))).mono ?_); rintro e w33 ⟨rfl, hb⟩; refine ⟨_, rfl, ?_⟩; have n0_ := Aside0.mk (below_step (by repeat (first | (with_reducible first | exact HB.out | apply below_alloc | apply pw_below_drewN | apply below_drew1) | exact HB.out)) hb); clear HB; have HB := n0_; clear n0_; (try clear hb); (try clear hb2); (try clear hk); (try clear hi)))
                  go_ret
                  exact ⟨by first | rfl | (simp [errW_none, errW_some] <;> rfl) | (simp [*, errW_none, errW_some] <;> rfl), by repeat (first | (with_reducible first | exact HB.out | apply below_alloc | apply pw_below_drewN | apply below_drew1) | exact HB.out)⟩
              · rw [if_neg c30] at H
                have c30b0 : (t341 == 0) = false := beq_eq_false_iff_ne.mpr c30
                have c30b1 : (t341 != 0) = true := bne_iff_ne.mpr c30
                obtain rfl := Option.some.inj H
                go_wp2_with (first | ((with_reducible refine gate_callee (f := 28) rfl ?_); refine goesL_ (some 108) rfl rfl Tryd.func28 (by kernel_rfl) rfl #[.int .i64 t329] rfl (by (try simp only [List.map_toArray, List.map_cons, List.map_nil]); first | done | rfl | (simp only [List.length_drop, List.length_take]; rfl)) ?_; (with_reducible refine (impl_AngleText.calls kj12 t329 t340 t341 _ A29.out (tabAt_on hT (by repeat (first | (with_reducible first | exact HB.out | apply below_alloc | apply pw_below_drewN | apply below_drew1 | refine below_set ?_ (Aside0.out (by assumption))) | exact HB.out)))).mono ?_); rintro e w34 ⟨rfl, hb⟩; refine ⟨_, rfl, ?_⟩; have n0_ := Aside0.mk (below_step (by repeat (first | (with_reducible first | exact HB.out | apply below_alloc | apply pw_below_drewN | apply below_drew1) | exact HB.out)) hb); clear HB; have HB := n0_; clear n0_; (try clear hb); (try clear hb2); (try clear hk); (try clear hi)))
                go_ret
                exact ⟨by first | rfl | (simp [errW_none, errW_some] <;> rfl) | (simp [*, errW_none, errW_some] <;> rfl), by repeat (first | (with_reducible first | exact HB.out | apply below_alloc | apply pw_below_drewN | apply below_drew1) | exact HB.out)⟩
            · rw [if_neg c28] at H
              have c28b0 : (t330 == 0) = false := beq_eq_false_iff_ne.mpr c28
              have c28b1 : (t330 != 0) = true := bne_iff_ne.mpr c28
              (first | rw [c28b0] | (simp only [i64_w, i32_w]; rw [c28b0]) | skip)
              have H' := Aside0.mk H
              clear H
              go_wp2
              go_meet
              case rel => exact ⟨_, H', ⟨by have := HJ12.out; first | omega | exact Nat.le_refl _⟩, ⟨by repeat (first | (with_reducible first | exact HB.out | apply below_alloc | apply pw_below_drewN | apply below_drew1) | exact HB.out)⟩⟩
          case rest =>
            clear HC27
            try clear c2
            try clear p2
            try clear c3
            try clear c5
            try clear c6
            try clear c21
            try clear c21b0
            try clear c21b1
            try clear c22
            try clear c22b0
            try clear c22b1
            try clear c23
            try clear c23b0
            try clear c23b1
            try clear c24
            try clear c24b0
            try clear c24b1
            try clear c25
            try clear c25b0
            try clear c25b1
            try clear c26
            try clear c27
            try clear c28
            try clear c28b0
            try clear c28b1
            try clear c29
            try clear c30
            try clear c30b0
            try clear c30b1
            try clear c31
            try clear c31b0
            try clear c31b1
            try clear c32
            try clear c33
            try clear c34
            try clear p2
            obtain ⟨kq, HA, HJ26, HB⟩ := hcut
            cases kq with
            | zero => exact absurd HA.out (by simp [laws_FnAngleTexts.j1])
            | succ kj26 =>
              have H := HA.out
              clear HA
              simp only [laws_FnAngleTexts.j1] at H
              by_cases c35 : t337 = 0
              · rw [if_pos c35] at H
                have c35b0 : (t337 == 0) = true := beq_iff_eq.mpr c35
                have c35b1 : (t337 != 0) = false := bne_eq_false_iff_eq.mpr c35
                clear c35
                replace H := Option.bind_eq_some_iff.mp H
                obtain ⟨⟨t342, t343⟩, A360, H⟩ := H
                replace H : ((impl_LiesOnWay.f t335 t334 t335).bind fun bt344 => ((impl_LiesOnWay.f t333 t335 t334).bind fun bt346 => (if t343 = 0 then (if t342 = true then (if bt344.2 = 0 then (if bt344.1 = true then (if bt346.2 = 0 then (if t336 = true then (laws_FnAngleTexts.j2 kj26 t323 t324 t325 false) else (if bt346.1 = true then (laws_FnAngleTexts.j2 kj26 t323 t324 t325 false) else (laws_FnAngleTexts.j2 kj26 t323 t324 t325 ((Int.tmod (wrap64 (t335 - t334)) 1296000) != 0)))) else (laws_FnAngleTexts.j2 kj26 t323 t324 t325 true)) else (laws_FnAngleTexts.j2 kj26 t323 t324 t325 true)) else (laws_FnAngleTexts.j2 kj26 t323 t324 t325 true)) else (laws_FnAngleTexts.j2 kj26 t323 t324 t325 true)) else (laws_FnAngleTexts.j2 kj26 t323 t324 t325 true)))) = some r := H
                have A36 := Aside0.mk A360
                clear A360
                replace H := Option.bind_eq_some_iff.mp H
                obtain ⟨⟨t344, t345⟩, A370, H⟩ := H
                replace H : ((impl_LiesOnWay.f t333 t335 t334).bind fun bt346 => (if t343 = 0 then (if t342 = true then (if t345 = 0 then (if t344 = true then (if bt346.2 = 0 then (if t336 = true then (laws_FnAngleTexts.j2 kj26 t323 t324 t325 false) else (if bt346.1 = true then (laws_FnAngleTexts.j2 kj26 t323 t324 t325 false) else (laws_FnAngleTexts.j2 kj26 t323 t324 t325 ((Int.tmod (wrap64 (t335 - t334)) 1296000) != 0)))) else (laws_FnAngleTexts.j2 kj26 t323 t324 t325 true)) else (laws_FnAngleTexts.j2 kj26 t323 t324 t325 true)) else (laws_FnAngleTexts.j2 kj26 t323 t324 t325 true)) else (laws_FnAngleTexts.j2 kj26 t323 t324 t325 true)) else (laws_FnAngleTexts.j2 kj26 t323 t324 t325 true))) = some r := H
                have A37 := Aside0.mk A370
                clear A370
                replace H := Option.bind_eq_some_iff.mp H
                obtain ⟨⟨t346, t347⟩, A380, H⟩ := H
                replace H : (if t343 = 0 then (if t342 = true then (if t345 = 0 then (if t344 = true then (if t347 = 0 then (if t336 = true then (laws_FnAngleTexts.j2 kj26 t323 t324 t325 false) else (if t346 = true then (laws_FnAngleTexts.j2 kj26 t323 t324 t325 false) else (laws_FnAngleTexts.j2 kj26 t323 t324 t325 ((Int.tmod (wrap64 (t335 - t334)) 1296000) != 0)))) else (laws_FnAngleTexts.j2 kj26 t323 t324 t325 true)) else (laws_FnAngleTexts.j2 kj26 t323 t324 t325 true)) else (laws_FnAngleTexts.j2 kj26 t323 t324 t325 true)) else (laws_FnAngleTexts.j2 kj26 t323 t324 t325 true)) else (laws_FnAngleTexts.j2 kj26 t323 t324 t325 true)) = some r := H
                have A38 := Aside0.mk A380
                clear A380
                have HC39 := Aside0.mk H
                clear H
                go_upto_region 22 with (first | ((with_reducible refine gate_callee (f := 34) rfl ?_); refine goesL_ (some 124) rfl rfl Tryd.func34 (by kernel_rfl) rfl #[.int .i64 t334, .int .i64 t334, .int .i64 t335] rfl (by (try simp only [List.map_toArray, List.map_cons, List.map_nil]); first | done | rfl | (simp only [List.length_drop, List.length_take]; rfl)) ?_; (with_reducible refine (impl_LiesOnWay.calls t334 t334 t335 t342 t343 _ A36.out).mono ?_); rintro e w' ⟨rfl, ⟨nd, rfl⟩⟩; refine ⟨_, rfl, ?_⟩) | ((with_reducible refine gate_callee (f := 34) rfl ?_); refine goesL_ (some 131) rfl rfl Tryd.func34 (by kernel_rfl) rfl #[.int .i64 t335, .int .i64 t334, .int .i64 t335] rfl (by (try simp only [List.map_toArray, List.map_cons, List.map_nil]); first | done | rfl | (simp only [List.length_drop, List.length_take]; rfl)) ?_; (with_reducible refine (impl_LiesOnWay.calls t335 t334 t335 t344 t345 _ A37.out).mono ?_); rintro e w' ⟨rfl, ⟨nd, rfl⟩⟩; refine ⟨_, rfl, ?_⟩) | ((with_reducible refine gate_callee (f := 34) rfl ?_); refine goesL_ (some 138) rfl rfl Tryd.func34 (by kernel_rfl) rfl #[.int .i64 t333, .int .i64 t335, .int .i64 t334] rfl (by (try simp only [List.map_toArray, List.map_cons, List.map_nil]); first | done | rfl | (simp only [List.length_drop, List.length_take]; rfl)) ?_; (with_reducible refine (impl_LiesOnWay.calls t333 t335 t334 t346 t347 _ A38.out).mono ?_); rintro e w' ⟨rfl, ⟨nd, rfl⟩⟩; refine ⟨_, rfl, ?_⟩))
                (try simp only [Act.put, List.setIfInBounds_toArray, List.set_cons_zero, List.set_cons_succ])
                go_cut [173] (fun v173 wc => ∃ (kq : Nat) (x173_38 : Bool), v173 = .bool x173_38 ∧ Aside0 (laws_FnAngleTexts.j2 kq t323 t324 t325 x173_38 = some r) ∧ Aside0 (kq ≤ kj26) ∧ Aside0 (Below w.heap.size w wc))
                case first =>
                  have H := HC39.out
                  clear HC39
                  by_cases c40 : t343 = 0
                  · rw [if_pos c40] at H
                    have c40b0 : (t343 == 0) = true := beq_iff_eq.mpr c40
                    have c40b1 : (t343 != 0) = false := bne_eq_false_iff_eq.mpr c40
                    clear c40
                    (first | rw [c40b0] | (simp only [i64_w, i32_w]; rw [c40b0]) | skip)
                    by_cases c41 : t342 = true
                    · subst c41
                      have H1 : (if t345 = 0 then (if t344 = true then (if t347 = 0 then (if t336 = true then (laws_FnAngleTexts.j2 kj26 t323 t324 t325 false) else (if t346 = true then (laws_FnAngleTexts.j2 kj26 t323 t324 t325 false) else (laws_FnAngleTexts.j2 kj26 t323 t324 t325 ((Int.tmod (wrap64 (t335 - t334)) 1296000) != 0)))) else (laws_FnAngleTexts.j2 kj26 t323 t324 t325 true)) else (laws_FnAngleTexts.j2 kj26 t323 t324 t325 true)) else (laws_FnAngleTexts.j2 kj26 t323 t324 t325 true)) = some r := by rw [if_pos rfl] at H; exact H
                      clear H
                      have H := H1
                      clear H1
                      by_cases c42 : t345 = 0
                      · rw [if_pos c42] at H
                        have c42b0 : (t345 == 0) = true := beq_iff_eq.mpr c42
                        have c42b1 : (t345 != 0) = false := bne_eq_false_iff_eq.mpr c42
                        clear c42
                        by_cases c43 : t344 = true
                        · subst c43
                          have H1 : (if t347 = 0 then (if t336 = true then (laws_FnAngleTexts.j2 kj26 t323 t324 t325 false) else (if t346 = true then (laws_FnAngleTexts.j2 kj26 t323 t324 t325 false) else (laws_FnAngleTexts.j2 kj26 t323 t324 t325 ((Int.tmod (wrap64 (t335 - t334)) 1296000) != 0)))) else (laws_FnAngleTexts.j2 kj26 t323 t324 t325 true)) = some r := by rw [if_pos rfl] at H; exact H
                          clear H
                          have H := H1
                          clear H1
                          by_cases c44 : t347 = 0
                          · rw [if_pos c44] at H
                            have c44b0 : (t347 == 0) = true := beq_iff_eq.mpr c44
                            have c44b1 : (t347 != 0) = false := bne_eq_false_iff_eq.mpr c44
                            clear c44
                            by_cases c45 : t336 = true
                            · subst c45
                              have H1 : (laws_FnAngleTexts.j2 kj26 t323 t324 t325 false) = some r := by rw [if_pos rfl] at H; exact H
                              clear H
                              have H := H1
                              clear H1
                              have H' := Aside0.mk H
                              clear H
                              go_wp2
                              go_meet
                              case rel => exact ⟨_, (false), (by first | rfl | (simp; done) | (simp [*]; done)), H', ⟨by have := HJ12.out; have := HJ26.out; first | omega | exact Nat.le_refl _⟩, ⟨by repeat (first | (with_reducible first | exact HB.out | apply below_alloc | apply pw_below_drewN | apply below_drew1) | exact HB.out)⟩⟩
                            · replace c45 := Bool.eq_false_iff.mpr c45
                              subst c45
                              have H1 : (if t346 = true then (laws_FnAngleTexts.j2 kj26 t323 t324 t325 false) else (laws_FnAngleTexts.j2 kj26 t323 t324 t325 ((Int.tmod (wrap64 (t335 - t334)) 1296000) != 0))) = some r := by rw [if_neg (show ¬ (false = true) by decide)] at H; exact H
                              clear H
                              have H := H1
                              clear H1
                              by_cases c46 : t346 = true
                              · subst c46
                                have H1 : (laws_FnAngleTexts.j2 kj26 t323 t324 t325 false) = some r := by rw [if_pos rfl] at H; exact H
                                clear H
                                have H := H1
                                clear H1
                                have H' := Aside0.mk H
                                clear H
                                go_wp2
                                go_meet
                                case rel => exact ⟨_, (false), (by first | rfl | (simp; done) | (simp [*]; done)), H', ⟨by have := HJ12.out; have := HJ26.out; first | omega | exact Nat.le_refl _⟩, ⟨by repeat (first | (with_reducible first | exact HB.out | apply below_alloc | apply pw_below_drewN | apply below_drew1) | exact HB.out)⟩⟩
                              · replace c46 := Bool.eq_false_iff.mpr c46
                                subst c46
                                have H1 : (laws_FnAngleTexts.j2 kj26 t323 t324 t325 ((Int.tmod (wrap64 (t335 - t334)) 1296000) != 0)) = some r := by rw [if_neg (show ¬ (false = true) by decide)] at H; exact H
                                clear H
                                have H := H1
                                clear H1
                                have H' := Aside0.mk H
                                clear H
                                go_wp2
                                go_meet
                                case rel => exact ⟨_, (((Int.tmod (wrap64 (t335 - t334)) 1296000) != 0)), (by first | rfl | (simp; done) | (simp [*]; done)), H', ⟨by have := HJ12.out; have := HJ26.out; first | omega | exact Nat.le_refl _⟩, ⟨by repeat (first | (with_reducible first | exact HB.out | apply below_alloc | apply pw_below_drewN | apply below_drew1) | exact HB.out)⟩⟩
                          · rw [if_neg c44] at H
                            have c44b0 : (t347 == 0) = false := beq_eq_false_iff_ne.mpr c44
                            have c44b1 : (t347 != 0) = true := bne_iff_ne.mpr c44
                            have H' := Aside0.mk H
                            clear H
                            go_wp2
                            go_meet
                            case rel => exact ⟨_, (true), (by first | rfl | (simp; done) | (simp [*]; done)), H', ⟨by have := HJ12.out; have := HJ26.out; first | omega | exact Nat.le_refl _⟩, ⟨by repeat (first | (with_reducible first | exact HB.out | apply below_alloc | apply pw_below_drewN | apply below_drew1) | exact HB.out)⟩⟩
                        · replace c43 := Bool.eq_false_iff.mpr c43
                          subst c43
                          have H1 : (laws_FnAngleTexts.j2 kj26 t323 t324 t325 true) = some r := by rw [if_neg (show ¬ (false = true) by decide)] at H; exact H
                          clear H
                          have H := H1
                          clear H1
                          have H' := Aside0.mk H
                          clear H
                          go_wp2
                          go_meet
                          case rel => exact ⟨_, (true), (by first | rfl | (simp; done) | (simp [*]; done)), H', ⟨by have := HJ12.out; have := HJ26.out; first | omega | exact Nat.le_refl _⟩, ⟨by repeat (first | (with_reducible first | exact HB.out | apply below_alloc | apply pw_below_drewN | apply below_drew1) | exact HB.out)⟩⟩
                      · rw [if_neg c42] at H
                        have c42b0 : (t345 == 0) = false := beq_eq_false_iff_ne.mpr c42
                        have c42b1 : (t345 != 0) = true := bne_iff_ne.mpr c42
                        have H' := Aside0.mk H
                        clear H
                        go_wp2
                        go_meet
                        case rel => exact ⟨_, (true), (by first | rfl | (simp; done) | (simp [*]; done)), H', ⟨by have := HJ12.out; have := HJ26.out; first | omega | exact Nat.le_refl _⟩, ⟨by repeat (first | (with_reducible first | exact HB.out | apply below_alloc | apply pw_below_drewN | apply below_drew1) | exact HB.out)⟩⟩
                    · replace c41 := Bool.eq_false_iff.mpr c41
                      subst c41
                      have H1 : (laws_FnAngleTexts.j2 kj26 t323 t324 t325 true) = some r := by rw [if_neg (show ¬ (false = true) by decide)] at H; exact H
                      clear H
                      have H := H1
                      clear H1
                      have H' := Aside0.mk H
                      clear H
                      go_wp2
                      go_meet
                      case rel => exact ⟨_, (true), (by first | rfl | (simp; done) | (simp [*]; done)), H', ⟨by have := HJ12.out; have := HJ26.out; first | omega | exact Nat.le_refl _⟩, ⟨by repeat (first | (with_reducible first | exact HB.out | apply below_alloc | apply pw_below_drewN | apply below_drew1) | exact HB.out)⟩⟩
                  · rw [if_neg c40] at H
                    have c40b0 : (t343 == 0) = false := beq_eq_false_iff_ne.mpr c40
                    have c40b1 : (t343 != 0) = true := bne_iff_ne.mpr c40
                    (first | rw [c40b0] | (simp only [i64_w, i32_w]; rw [c40b0]) | skip)
                    have H' := Aside0.mk H
                    clear H
                    go_wp2
                    go_meet
                    case rel => exact ⟨_, (true), (by first | rfl | (simp; done) | (simp [*]; done)), H', ⟨by have := HJ12.out; have := HJ26.out; first | omega | exact Nat.le_refl _⟩, ⟨by repeat (first | (with_reducible first | exact HB.out | apply below_alloc | apply pw_below_drewN | apply below_drew1) | exact HB.out)⟩⟩
                case rest =>
                  clear HC39
                  try clear c2
                  try clear p2
                  try clear c3
                  try clear c4
                  try clear c5
                  try clear c6
                  try clear p6
                  try clear c21
                  try clear c21b0
                  try clear c21b1
                  try clear c22
                  try clear c22b0
                  try clear c22b1
                  try clear c23
                  try clear c23b0
                  try clear c23b1
                  try clear c24
                  try clear c24b0
                  try clear c24b1
                  try clear c25
                  try clear c25b0
                  try clear c25b1
                  try clear c26
                  try clear c27
                  try clear c28
                  try clear c28b0
                  try clear c28b1
                  try clear c29
                  try clear c30
                  try clear c30b0
                  try clear c30b1
                  try clear c31
                  try clear c31b0
                  try clear c31b1
                  try clear c32
                  try clear c33
                  try clear c34
                  try clear c35
                  try clear c35b0
                  try clear c35b1
                  try clear c40
                  try clear c40b0
                  try clear c40b1
                  try clear c41
                  try clear c42
                  try clear c42b0
                  try clear c42b1
                  try clear c43
                  try clear c44
                  try clear c44b0
                  try clear c44b1
                  try clear c45
                  try clear c46
                  try clear p2
                  obtain ⟨kq, x173_38, rfl, HA, HJ38, HB⟩ := hcut
                  cases kq with
                  | zero => exact absurd HA.out (by simp [laws_FnAngleTexts.j2])
                  | succ kj38 =>
                    have H := HA.out
                    clear HA
                    simp only [laws_FnAngleTexts.j2] at H
                    by_cases c47 : x173_38 = true
                    · subst c47
                      have H1 : (some false) = some r := by rw [if_pos rfl] at H; exact H
                      clear H
                      have H := H1
                      clear H1
                      obtain rfl := Option.some.inj H
                      go_wp2
                      go_ret
                      exact ⟨by first | rfl | (simp [errW_none, errW_some] <;> rfl) | (simp [*, errW_none, errW_some] <;> rfl), by repeat (first | (with_reducible first | exact HB.out | apply below_alloc | apply pw_below_drewN | apply below_drew1) | exact HB.out)⟩
                    · replace c47 := Bool.eq_false_iff.mpr c47
                      subst c47
                      have H1 : (if t325 = 0 then ((impl_ReadAngle.f kj38 t324).bind fun bt348 => (if bt348.2 = 0 then (some (bt348.1 == t323)) else (some false))) else (some true)) = some r := by rw [if_neg (show ¬ (false = true) by decide)] at H; exact H
                      clear H
                      have H := H1
                      clear H1
                      by_cases c48 : t325 = 0
                      · rw [if_pos c48] at H
                        have c48b0 : (t325 == 0) = true := beq_iff_eq.mpr c48
                        have c48b1 : (t325 != 0) = false := bne_eq_false_iff_eq.mpr c48
                        clear c48
                        replace H := Option.bind_eq_some_iff.mp H
                        obtain ⟨⟨t348, t349⟩, A490, H⟩ := H
                        replace H : (if t349 = 0 then (some (t348 == t323)) else (some false)) = some r := H
                        have A49 := Aside0.mk A490
                        clear A490
                        by_cases c50 : t349 = 0
                        · rw [if_pos c50] at H
                          have c50b0 : (t349 == 0) = true := beq_iff_eq.mpr c50
                          have c50b1 : (t349 != 0) = false := bne_eq_false_iff_eq.mpr c50
                          clear c50
                          obtain rfl := Option.some.inj H
                          go_wp2_with (first | ((with_reducible refine gate_callee (f := 31) rfl ?_); refine goesL_ (some 178) rfl rfl Tryd.func31 (by kernel_rfl) rfl #[.string t324] rfl (by (try simp only [List.map_toArray, List.map_cons, List.map_nil]); first | done | rfl | (simp only [List.length_drop, List.length_take]; rfl)) ?_; (with_reducible refine (impl_ReadAngle.calls kj38 t324 t348 t349 _ A49.out (tabAt_on hT (by repeat (first | (with_reducible first | exact HB.out | apply below_alloc | apply pw_below_drewN | apply below_drew1 | refine below_set ?_ (Aside0.out (by assumption))) | exact HB.out)))).mono ?_); rintro e w51 ⟨rfl, hb⟩; refine ⟨_, rfl, ?_⟩; have n0_ := Aside0.mk (below_step (by repeat (first | (with_reducible first | exact HB.out | apply below_alloc | apply pw_below_drewN | apply below_drew1) | exact HB.out)) hb); clear HB; have HB := n0_; clear n0_; (try clear hb); (try clear hb2); (try clear hk); (try clear hi)))
                          go_ret
                          exact ⟨by first | rfl | (simp [errW_none, errW_some] <;> rfl) | (simp [*, errW_none, errW_some] <;> rfl), by repeat (first | (with_reducible first | exact HB.out | apply below_alloc | apply pw_below_drewN | apply below_drew1) | exact HB.out)⟩
                        · rw [if_neg c50] at H
                          have c50b0 : (t349 == 0) = false := beq_eq_false_iff_ne.mpr c50
                          have c50b1 : (t349 != 0) = true := bne_iff_ne.mpr c50
                          obtain rfl := Option.some.inj H
                          go_wp2_with (first | ((with_reducible refine gate_callee (f := 31) rfl ?_); refine goesL_ (some 178) rfl rfl Tryd.func31 (by kernel_rfl) rfl #[.string t324] rfl (by (try simp only [List.map_toArray, List.map_cons, List.map_nil]); first | done | rfl | (simp only [List.length_drop, List.length_take]; rfl)) ?_; (with_reducible refine (impl_ReadAngle.calls kj38 t324 t348 t349 _ A49.out (tabAt_on hT (by repeat (first | (with_reducible first | exact HB.out | apply below_alloc | apply pw_below_drewN | apply below_drew1 | refine below_set ?_ (Aside0.out (by assumption))) | exact HB.out)))).mono ?_); rintro e w52 ⟨rfl, hb⟩; refine ⟨_, rfl, ?_⟩; have n0_ := Aside0.mk (below_step (by repeat (first | (with_reducible first | exact HB.out | apply below_alloc | apply pw_below_drewN | apply below_drew1) | exact HB.out)) hb); clear HB; have HB := n0_; clear n0_; (try clear hb); (try clear hb2); (try clear hk); (try clear hi)))
                          go_ret
                          exact ⟨by first | rfl | (simp [errW_none, errW_some] <;> rfl) | (simp [*, errW_none, errW_some] <;> rfl), by repeat (first | (with_reducible first | exact HB.out | apply below_alloc | apply pw_below_drewN | apply below_drew1) | exact HB.out)⟩
                      · rw [if_neg c48] at H
                        have c48b0 : (t325 == 0) = false := beq_eq_false_iff_ne.mpr c48
                        have c48b1 : (t325 != 0) = true := bne_iff_ne.mpr c48
                        obtain rfl := Option.some.inj H
                        go_wp2
                        go_ret
                        exact ⟨by first | rfl | (simp [errW_none, errW_some] <;> rfl) | (simp [*, errW_none, errW_some] <;> rfl), by repeat (first | (with_reducible first | exact HB.out | apply below_alloc | apply pw_below_drewN | apply below_drew1) | exact HB.out)⟩
              · rw [if_neg c35] at H
                have c35b0 : (t337 == 0) = false := beq_eq_false_iff_ne.mpr c35
                have c35b1 : (t337 != 0) = true := bne_iff_ne.mpr c35
                by_cases c53 : t325 = 0
                · rw [if_pos c53] at H
                  have c53b0 : (t325 == 0) = true := beq_iff_eq.mpr c53
                  have c53b1 : (t325 != 0) = false := bne_eq_false_iff_eq.mpr c53
                  clear c53
                  replace H := Option.bind_eq_some_iff.mp H
                  obtain ⟨⟨t350, t351⟩, A540, H⟩ := H
                  replace H : (if t351 = 0 then (some (t350 == t323)) else (some false)) = some r := H
                  have A54 := Aside0.mk A540
                  clear A540
                  by_cases c55 : t351 = 0
                  · rw [if_pos c55] at H
                    have c55b0 : (t351 == 0) = true := beq_iff_eq.mpr c55
                    have c55b1 : (t351 != 0) = false := bne_eq_false_iff_eq.mpr c55
                    clear c55
                    obtain rfl := Option.some.inj H
                    go_wp2_with (first | ((with_reducible refine gate_callee (f := 31) rfl ?_); refine goesL_ (some 178) rfl rfl Tryd.func31 (by kernel_rfl) rfl #[.string t324] rfl (by (try simp only [List.map_toArray, List.map_cons, List.map_nil]); first | done | rfl | (simp only [List.length_drop, List.length_take]; rfl)) ?_; (with_reducible refine (impl_ReadAngle.calls kj26 t324 t350 t351 _ A54.out (tabAt_on hT (by repeat (first | (with_reducible first | exact HB.out | apply below_alloc | apply pw_below_drewN | apply below_drew1 | refine below_set ?_ (Aside0.out (by assumption))) | exact HB.out)))).mono ?_); rintro e w56 ⟨rfl, hb⟩; refine ⟨_, rfl, ?_⟩; have n0_ := Aside0.mk (below_step (by repeat (first | (with_reducible first | exact HB.out | apply below_alloc | apply pw_below_drewN | apply below_drew1) | exact HB.out)) hb); clear HB; have HB := n0_; clear n0_; (try clear hb); (try clear hb2); (try clear hk); (try clear hi)))
                    go_ret
                    exact ⟨by first | rfl | (simp [errW_none, errW_some] <;> rfl) | (simp [*, errW_none, errW_some] <;> rfl), by repeat (first | (with_reducible first | exact HB.out | apply below_alloc | apply pw_below_drewN | apply below_drew1) | exact HB.out)⟩
                  · rw [if_neg c55] at H
                    have c55b0 : (t351 == 0) = false := beq_eq_false_iff_ne.mpr c55
                    have c55b1 : (t351 != 0) = true := bne_iff_ne.mpr c55
                    obtain rfl := Option.some.inj H
                    go_wp2_with (first | ((with_reducible refine gate_callee (f := 31) rfl ?_); refine goesL_ (some 178) rfl rfl Tryd.func31 (by kernel_rfl) rfl #[.string t324] rfl (by (try simp only [List.map_toArray, List.map_cons, List.map_nil]); first | done | rfl | (simp only [List.length_drop, List.length_take]; rfl)) ?_; (with_reducible refine (impl_ReadAngle.calls kj26 t324 t350 t351 _ A54.out (tabAt_on hT (by repeat (first | (with_reducible first | exact HB.out | apply below_alloc | apply pw_below_drewN | apply below_drew1 | refine below_set ?_ (Aside0.out (by assumption))) | exact HB.out)))).mono ?_); rintro e w57 ⟨rfl, hb⟩; refine ⟨_, rfl, ?_⟩; have n0_ := Aside0.mk (below_step (by repeat (first | (with_reducible first | exact HB.out | apply below_alloc | apply pw_below_drewN | apply below_drew1) | exact HB.out)) hb); clear HB; have HB := n0_; clear n0_; (try clear hb); (try clear hb2); (try clear hk); (try clear hi)))
                    go_ret
                    exact ⟨by first | rfl | (simp [errW_none, errW_some] <;> rfl) | (simp [*, errW_none, errW_some] <;> rfl), by repeat (first | (with_reducible first | exact HB.out | apply below_alloc | apply pw_below_drewN | apply below_drew1) | exact HB.out)⟩
                · rw [if_neg c53] at H
                  have c53b0 : (t325 == 0) = false := beq_eq_false_iff_ne.mpr c53
                  have c53b1 : (t325 != 0) = true := bne_iff_ne.mpr c53
                  obtain rfl := Option.some.inj H
                  go_wp2
                  go_ret
                  exact ⟨by first | rfl | (simp [errW_none, errW_some] <;> rfl) | (simp [*, errW_none, errW_some] <;> rfl), by repeat (first | (with_reducible first | exact HB.out | apply below_alloc | apply pw_below_drewN | apply below_drew1) | exact HB.out)⟩

/-- THE ONE PURE STATEMENT of laws_FnAngleTexts: yours. -/
def laws_FnAngleTexts.Pure : Prop := ∀ (l0 : List Int), l0.length ≤ maxLen → l0.length * 1 ≤ 140737488351232 → (∀ x ∈ l0, (Lit.int .u8 x).wf = true) → ∃ k, laws_FnAngleTexts.f k l0 = some true
theorem laws_FnAngleTexts.walk (P : laws_FnAngleTexts.Pure) (a0 : Option Addr) (len0 cap0 : Nat) (z0 : List Int) (w : World) (w0 : (a0 = none ∧ len0 = 0 ∧ cap0 = 0 ∧ z0 = []) ∨ ∃ x, a0 = some x ∧ len0 ≤ cap0 ∧ cap0 ≤ maxLen ∧ z0.length = cap0 ∧ (∀ i, i < z0.length → w.cell? (x.add i) = some (.int .u8 (z0.getD i 0))) ∧ ∀ n ∈ z0, (Lit.int .u8 n).wf = true) (y0 : len0 * 1 ≤ 140737488351232) (hT : Aside0 (TabAt w)) :
    Calls Tryd.prog 5 #[.slice a0 len0 cap0] w fun e w' => e = .returned (.bool true) ∧ Below w.heap.size w w' := by
  obtain ⟨l0, rfl, hr0, hm0, hw0, hc0⟩ := ReadsInt.ofRowC w0
  obtain ⟨k, h⟩ := P l0 hm0 y0 hw0
  refine (laws_FnAngleTexts.calls k _ _ l0 true w (Kd.C_of_reads (d := (0 : Int)) (h1 := fun _ => rfl) hr0) hc0 h hT).mono ?_
  rintro e w' ⟨rfl, hd⟩
  exact ⟨rfl, hd⟩

end Go.Proofs.YtndjeclnadpifaaDoor.PFnAngleTexts
