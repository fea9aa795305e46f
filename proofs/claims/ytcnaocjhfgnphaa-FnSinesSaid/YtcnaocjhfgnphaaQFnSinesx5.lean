-- The machine's side of the law FnSines: functions and their walks, made by q.py out of the kit's own print.
import Derived.Test.YtcnaocjhfgnphaaQFnSinesx0
import Derived.Test.YtcnaocjhfgnphaaQFnSinesx1
import Derived.Test.YtcnaocjhfgnphaaQFnSinesx2
import Derived.Test.YtcnaocjhfgnphaaQFnSinesx3
import Derived.Test.YtcnaocjhfgnphaaQFnSinesx4
namespace Go.Proofs.Ytcnaocjhfgnphaa.PFnSines
open Go.RowKit Go.Proofs.YtcnaocjhfgnphaaW.PrintWords Go.Proofs.YtcnaocjhfgnphaaW.PrintLast Go.Proofs.YtcnaocjhfgnphaaW.PrintMore
attribute [local go_sem] max2_int min2_int max_two min_two max_three min_three max_four min_four   -- for this text's walks alone
set_option linter.unusedVariables false
set_option linter.unusedSimpArgs false

attribute [local go_sem high] eqA33
/-! ### laws_FnSines: function 6 -/
mutual
def laws_FnSines.j0 : Nat → Int → Int → Int → Int → Int → Bool → Int → Int → Int → Int → Option (Bool)
  | 0, _, _, _, _, _, _, _, _, _, _ => none
  | k + 1, x3, x4, x5, x10, x14, x87, x243000, x243001, x251000, x251001 => if x87 = true then (some false) else (if x10 = 0 then (if x14 = 0 then (if (wrap64 (x243001 - x243000)) > 2 then (laws_FnSines.j1 k x3 x4 x5 true) else (laws_FnSines.j1 k x3 x4 x5 (decide ((wrap64 (x251001 - x251000)) > 2)))) else (laws_FnSines.j1 k x3 x4 x5 false)) else (laws_FnSines.j1 k x3 x4 x5 false))
def laws_FnSines.j1 : Nat → Int → Int → Int → Bool → Option (Bool)
  | 0, _, _, _, _ => none
  | k + 1, x3, x4, x5, x109 => if x109 = true then (some false) else (if x5 = 0 then ((impl_NanoSine.f k (wrap64 (x3 + 324000))).bind fun bt255 => ((impl_NanoSine.f k (wrap64 (-x3))).bind fun bt257 => ((impl_NanoSine.f k (wrap64 (648000 - x3))).bind fun bt259 => (if bt255.2 = 0 then (if bt257.2 = 0 then (if bt259.2 = 0 then (if bt257.1 = (wrap64 (-x4)) then (if bt259.1 = x4 then (if (wrap64 ((wrap64 ((wrap64 (x4 * x4)) + (wrap64 (bt255.1 * bt255.1)))) - 1000000000000000000)) ≤ 400000000000 then (some (decide ((wrap64 ((wrap64 ((wrap64 (x4 * x4)) + (wrap64 (bt255.1 * bt255.1)))) - 1000000000000000000)) ≥ (-400000000000)))) else (some false)) else (some false)) else (some false)) else (if bt255.2 = 2 then (some true) else (if bt257.2 = 2 then (some true) else (some (bt259.2 == 2))))) else (if bt255.2 = 2 then (some true) else (if bt257.2 = 2 then (some true) else (some (bt259.2 == 2))))) else (if bt255.2 = 2 then (some true) else (if bt257.2 = 2 then (some true) else (some (bt259.2 == 2)))))))) else (some true))
end
def laws_FnSines.f (k : Nat) (l0 : List Int) : Option (Bool) := (laws_big.f l0).bind fun t232 => (if t232 = true then (some true) else ((spec_DrawNanoSine.f k l0).bind fun t233 => ((impl_NanoSine.f k t233).bind fun bt234 => ((spec_NanoSine.f k t233).bind fun bt236 => ((spec_DrawSineOf.f k l0).bind fun t238 => ((impl_SineOf.f k t238).bind fun bt239 => ((spec_SineOf.f k t238).bind fun bt243 => ((impl_CosineOf.f k t238).bind fun bt247 => ((spec_CosineOf.f k t238).bind fun bt251 => (if bt234.2 = bt236.2 then (if bt234.1 = bt236.1 then (if bt239.2.2 = bt243.2.2 then (if (!(bt239.1 == bt243.1) || (!(bt239.2.1 == bt243.2.1))) = true then (laws_FnSines.j0 k t233 bt234.1 bt234.2 bt239.2.2 bt247.2.2 true bt239.1 bt239.2.1 bt247.1 bt247.2.1) else (if bt247.2.2 = bt251.2.2 then (laws_FnSines.j0 k t233 bt234.1 bt234.2 bt239.2.2 bt247.2.2 (!(bt247.1 == bt251.1) || (!(bt247.2.1 == bt251.2.1))) bt239.1 bt239.2.1 bt247.1 bt247.2.1) else (laws_FnSines.j0 k t233 bt234.1 bt234.2 bt239.2.2 bt247.2.2 true bt239.1 bt239.2.1 bt247.1 bt247.2.1))) else (laws_FnSines.j0 k t233 bt234.1 bt234.2 bt239.2.2 bt247.2.2 true bt239.1 bt239.2.1 bt247.1 bt247.2.1)) else (laws_FnSines.j0 k t233 bt234.1 bt234.2 bt239.2.2 bt247.2.2 true bt239.1 bt239.2.1 bt247.1 bt247.2.1)) else (laws_FnSines.j0 k t233 bt234.1 bt234.2 bt239.2.2 bt247.2.2 true bt239.1 bt239.2.1 bt247.1 bt247.2.1)))))))))))
theorem laws_FnSines.mono_l : ∀ k, (∀ y0 y1 y2 y3 y4 y5 y6 y7 y8 y9, LeO (laws_FnSines.j0 k y0 y1 y2 y3 y4 y5 y6 y7 y8 y9) (laws_FnSines.j0 (k + 1) y0 y1 y2 y3 y4 y5 y6 y7 y8 y9)) ∧ (∀ y0 y1 y2 y3, LeO (laws_FnSines.j1 k y0 y1 y2 y3) (laws_FnSines.j1 (k + 1) y0 y1 y2 y3))
  | 0 => ⟨fun _ _ _ _ _ _ _ _ _ _ r h => by simp [laws_FnSines.j0] at h, fun _ _ _ _ r h => by simp [laws_FnSines.j1] at h⟩
  | k + 1 => by
    obtain ⟨ih0, ih1⟩ := laws_FnSines.mono_l k
    refine ⟨?_, ?_⟩
    · intro y0 y1 y2 y3 y4 y5 y6 y7 y8 y9
      unfold laws_FnSines.j0
      repeat' first
      | (with_reducible exact ih0 _ _ _ _ _ _ _ _ _ _)
      | (with_reducible exact ih1 _ _ _ _)
      | (with_reducible exact impl_CosineOf.mono _ _)
      | (with_reducible exact impl_NanoSine.mono _ _)
      | (with_reducible exact impl_SineOf.mono _ _)
      | (with_reducible exact spec_CosineOf.mono _ _)
      | (with_reducible exact spec_DrawNanoSine.mono _ _)
      | (with_reducible exact spec_DrawSineOf.mono _ _)
      | (with_reducible exact spec_NanoSine.mono _ _)
      | (with_reducible exact spec_SineOf.mono _ _)
      | (with_reducible exact LeO.refl _)
      | (with_reducible exact LeO.none _)
      | (with_reducible refine LeO.ite ?_ ?_)
      | (with_reducible refine LeO.bind ?_ (fun _ => ?_))
      | exact ih0 _ _ _ _ _ _ _ _ _ _
      | exact ih1 _ _ _ _
      | exact impl_CosineOf.mono _ _
      | exact impl_NanoSine.mono _ _
      | exact impl_SineOf.mono _ _
      | exact spec_CosineOf.mono _ _
      | exact spec_DrawNanoSine.mono _ _
      | exact spec_DrawSineOf.mono _ _
      | exact spec_NanoSine.mono _ _
      | exact spec_SineOf.mono _ _
      | exact LeO.none _
      | refine LeO.ite ?_ ?_
      | refine LeO.bind ?_ (fun _ => ?_)
    · intro y0 y1 y2 y3
      unfold laws_FnSines.j1
      repeat' first
      | (with_reducible exact ih0 _ _ _ _ _ _ _ _ _ _)
      | (with_reducible exact ih1 _ _ _ _)
      | (with_reducible exact impl_CosineOf.mono _ _)
      | (with_reducible exact impl_NanoSine.mono _ _)
      | (with_reducible exact impl_SineOf.mono _ _)
      | (with_reducible exact spec_CosineOf.mono _ _)
      | (with_reducible exact spec_DrawNanoSine.mono _ _)
      | (with_reducible exact spec_DrawSineOf.mono _ _)
      | (with_reducible exact spec_NanoSine.mono _ _)
      | (with_reducible exact spec_SineOf.mono _ _)
      | (with_reducible exact LeO.refl _)
      | (with_reducible exact LeO.none _)
      | (with_reducible refine LeO.ite ?_ ?_)
      | (with_reducible refine LeO.bind ?_ (fun _ => ?_))
      | exact ih0 _ _ _ _ _ _ _ _ _ _
      | exact ih1 _ _ _ _
      | exact impl_CosineOf.mono _ _
      | exact impl_NanoSine.mono _ _
      | exact impl_SineOf.mono _ _
      | exact spec_CosineOf.mono _ _
      | exact spec_DrawNanoSine.mono _ _
      | exact spec_DrawSineOf.mono _ _
      | exact spec_NanoSine.mono _ _
      | exact spec_SineOf.mono _ _
      | exact LeO.none _
      | refine LeO.ite ?_ ?_
      | refine LeO.bind ?_ (fun _ => ?_)
theorem laws_FnSines.mono : ∀ a0 k, LeO (laws_FnSines.f k a0) (laws_FnSines.f (k + 1) a0) := by
  intro a0 k
  obtain ⟨ih0, ih1⟩ := laws_FnSines.mono_l k
  unfold laws_FnSines.f
  repeat' first
      | (with_reducible exact ih0 _ _ _ _ _ _ _ _ _ _)
      | (with_reducible exact ih1 _ _ _ _)
      | (with_reducible exact impl_CosineOf.mono _ _)
      | (with_reducible exact impl_NanoSine.mono _ _)
      | (with_reducible exact impl_SineOf.mono _ _)
      | (with_reducible exact spec_CosineOf.mono _ _)
      | (with_reducible exact spec_DrawNanoSine.mono _ _)
      | (with_reducible exact spec_DrawSineOf.mono _ _)
      | (with_reducible exact spec_NanoSine.mono _ _)
      | (with_reducible exact spec_SineOf.mono _ _)
      | (with_reducible exact LeO.refl _)
      | (with_reducible exact LeO.none _)
      | (with_reducible refine LeO.ite ?_ ?_)
      | (with_reducible refine LeO.bind ?_ (fun _ => ?_))
      | exact ih0 _ _ _ _ _ _ _ _ _ _
      | exact ih1 _ _ _ _
      | exact impl_CosineOf.mono _ _
      | exact impl_NanoSine.mono _ _
      | exact impl_SineOf.mono _ _
      | exact spec_CosineOf.mono _ _
      | exact spec_DrawNanoSine.mono _ _
      | exact spec_DrawSineOf.mono _ _
      | exact spec_NanoSine.mono _ _
      | exact spec_SineOf.mono _ _
      | exact LeO.none _
      | refine LeO.ite ?_ ?_
      | refine LeO.bind ?_ (fun _ => ?_)
set_option maxHeartbeats 8000000 in
set_option maxRecDepth 100000 in
theorem laws_FnSines.calls (k : Nat) (A0 : Option Addr) (c0 : Nat) (l0 : List Int) (r : Bool) (w : World) (hr0 : Kd.C (Kd.int .u8) w A0 l0.length l0) (hc0 : l0.length ≤ c0) (h : laws_FnSines.f k l0 = some r) :
    Calls Try.prog 6 #[.slice A0 l0.length c0] w fun e w' => e = .returned (.bool r) ∧ Below w.heap.size w w' := by
  have hu33 := Try.underlying33
  have HR0 := Aside0.mk hr0
  have HC0 := Aside0.mk hc0
  clear hr0 hc0
  have HB := Aside0.mk (Below.refl w.heap.size w)
  have H : ((laws_big.f l0).bind fun t232 => (if t232 = true then (some true) else ((spec_DrawNanoSine.f k l0).bind fun t233 => ((impl_NanoSine.f k t233).bind fun bt234 => ((spec_NanoSine.f k t233).bind fun bt236 => ((spec_DrawSineOf.f k l0).bind fun t238 => ((impl_SineOf.f k t238).bind fun bt239 => ((spec_SineOf.f k t238).bind fun bt243 => ((impl_CosineOf.f k t238).bind fun bt247 => ((spec_CosineOf.f k t238).bind fun bt251 => (if bt234.2 = bt236.2 then (if bt234.1 = bt236.1 then (if bt239.2.2 = bt243.2.2 then (if (!(bt239.1 == bt243.1) || (!(bt239.2.1 == bt243.2.1))) = true then (laws_FnSines.j0 k t233 bt234.1 bt234.2 bt239.2.2 bt247.2.2 true bt239.1 bt239.2.1 bt247.1 bt247.2.1) else (if bt247.2.2 = bt251.2.2 then (laws_FnSines.j0 k t233 bt234.1 bt234.2 bt239.2.2 bt247.2.2 (!(bt247.1 == bt251.1) || (!(bt247.2.1 == bt251.2.1))) bt239.1 bt239.2.1 bt247.1 bt247.2.1) else (laws_FnSines.j0 k t233 bt234.1 bt234.2 bt239.2.2 bt247.2.2 true bt239.1 bt239.2.1 bt247.1 bt247.2.1))) else (laws_FnSines.j0 k t233 bt234.1 bt234.2 bt239.2.2 bt247.2.2 true bt239.1 bt239.2.1 bt247.1 bt247.2.1)) else (laws_FnSines.j0 k t233 bt234.1 bt234.2 bt239.2.2 bt247.2.2 true bt239.1 bt239.2.1 bt247.1 bt247.2.1)) else (laws_FnSines.j0 k t233 bt234.1 bt234.2 bt239.2.2 bt247.2.2 true bt239.1 bt239.2.1 bt247.1 bt247.2.1)))))))))))) = some r := h
  clear h
  replace H := Option.bind_eq_some_iff.mp H
  obtain ⟨t232, A20, H⟩ := H
  replace H : (if t232 = true then (some true) else ((spec_DrawNanoSine.f k l0).bind fun t233 => ((impl_NanoSine.f k t233).bind fun bt234 => ((spec_NanoSine.f k t233).bind fun bt236 => ((spec_DrawSineOf.f k l0).bind fun t238 => ((impl_SineOf.f k t238).bind fun bt239 => ((spec_SineOf.f k t238).bind fun bt243 => ((impl_CosineOf.f k t238).bind fun bt247 => ((spec_CosineOf.f k t238).bind fun bt251 => (if bt234.2 = bt236.2 then (if bt234.1 = bt236.1 then (if bt239.2.2 = bt243.2.2 then (if (!(bt239.1 == bt243.1) || (!(bt239.2.1 == bt243.2.1))) = true then (laws_FnSines.j0 k t233 bt234.1 bt234.2 bt239.2.2 bt247.2.2 true bt239.1 bt239.2.1 bt247.1 bt247.2.1) else (if bt247.2.2 = bt251.2.2 then (laws_FnSines.j0 k t233 bt234.1 bt234.2 bt239.2.2 bt247.2.2 (!(bt247.1 == bt251.1) || (!(bt247.2.1 == bt251.2.1))) bt239.1 bt239.2.1 bt247.1 bt247.2.1) else (laws_FnSines.j0 k t233 bt234.1 bt234.2 bt239.2.2 bt247.2.2 true bt239.1 bt239.2.1 bt247.1 bt247.2.1))) else (laws_FnSines.j0 k t233 bt234.1 bt234.2 bt239.2.2 bt247.2.2 true bt239.1 bt239.2.1 bt247.1 bt247.2.1)) else (laws_FnSines.j0 k t233 bt234.1 bt234.2 bt239.2.2 bt247.2.2 true bt239.1 bt239.2.1 bt247.1 bt247.2.1)) else (laws_FnSines.j0 k t233 bt234.1 bt234.2 bt239.2.2 bt247.2.2 true bt239.1 bt239.2.1 bt247.1 bt247.2.1))))))))))) = some r := H
  have A2 := Aside0.mk A20
  clear A20
  by_cases c3 : t232 = true
  · subst c3
    have H1 : (some true) = some r := by rw [if_pos rfl] at H; exact H
    clear H
    have H := H1
    clear H1
    obtain rfl := Option.some.inj H
    go_enter Try.func6, Try.ntmps6
    go_wp2_with (first | ((with_reducible refine gate_callee (f := 9) rfl ?_); refine goesL_ (some 25) rfl rfl Try.func9 (by kernel_rfl) rfl #[.slice A0 l0.length c0] rfl (by (try simp only [List.map_toArray, List.map_cons, List.map_nil]); first | done | rfl | (simp only [List.length_drop, List.length_take]; rfl)) ?_; (with_reducible refine (laws_big.calls _ _ l0 true _ ?side1 ?side2 A2.out).mono ?_); (case side1 => repeat (first | exact HR0.out | (with_reducible refine Kd.C_alloc ?_ _) | (with_reducible refine Kd.C_drewN ?_ _) | (with_reducible refine Kd.C_drew ?_))); (case side2 => exact HC0.out); rintro e w' ⟨rfl, ⟨nd, rfl⟩⟩; refine ⟨_, rfl, ?_⟩))
    go_ret
    exact ⟨by first | rfl | (simp [errW_none, errW_some] <;> rfl) | (simp [*, errW_none, errW_some] <;> rfl), by repeat (first | (with_reducible first | exact HB.out | apply below_alloc | apply pw_below_drewN | apply below_drew1) | exact HB.out)⟩
  · replace c3 := Bool.eq_false_iff.mpr c3
    subst c3
    have H1 : ((spec_DrawNanoSine.f k l0).bind fun t233 => ((impl_NanoSine.f k t233).bind fun bt234 => ((spec_NanoSine.f k t233).bind fun bt236 => ((spec_DrawSineOf.f k l0).bind fun t238 => ((impl_SineOf.f k t238).bind fun bt239 => ((spec_SineOf.f k t238).bind fun bt243 => ((impl_CosineOf.f k t238).bind fun bt247 => ((spec_CosineOf.f k t238).bind fun bt251 => (if bt234.2 = bt236.2 then (if bt234.1 = bt236.1 then (if bt239.2.2 = bt243.2.2 then (if (!(bt239.1 == bt243.1) || (!(bt239.2.1 == bt243.2.1))) = true then (laws_FnSines.j0 k t233 bt234.1 bt234.2 bt239.2.2 bt247.2.2 true bt239.1 bt239.2.1 bt247.1 bt247.2.1) else (if bt247.2.2 = bt251.2.2 then (laws_FnSines.j0 k t233 bt234.1 bt234.2 bt239.2.2 bt247.2.2 (!(bt247.1 == bt251.1) || (!(bt247.2.1 == bt251.2.1))) bt239.1 bt239.2.1 bt247.1 bt247.2.1) else (laws_FnSines.j0 k t233 bt234.1 bt234.2 bt239.2.2 bt247.2.2 true bt239.1 bt239.2.1 bt247.1 bt247.2.1))) else (laws_FnSines.j0 k t233 bt234.1 bt234.2 bt239.2.2 bt247.2.2 true bt239.1 bt239.2.1 bt247.1 bt247.2.1)) else (laws_FnSines.j0 k t233 bt234.1 bt234.2 bt239.2.2 bt247.2.2 true bt239.1 bt239.2.1 bt247.1 bt247.2.1)) else (laws_FnSines.j0 k t233 bt234.1 bt234.2 bt239.2.2 bt247.2.2 true bt239.1 bt239.2.1 bt247.1 bt247.2.1)))))))))) = some r := by rw [if_neg (show ¬ (false = true) by decide)] at H; exact H
    clear H
    have H := H1
    clear H1
    replace H := Option.bind_eq_some_iff.mp H
    obtain ⟨t233, A40, H⟩ := H
    replace H : ((impl_NanoSine.f k t233).bind fun bt234 => ((spec_NanoSine.f k t233).bind fun bt236 => ((spec_DrawSineOf.f k l0).bind fun t238 => ((impl_SineOf.f k t238).bind fun bt239 => ((spec_SineOf.f k t238).bind fun bt243 => ((impl_CosineOf.f k t238).bind fun bt247 => ((spec_CosineOf.f k t238).bind fun bt251 => (if bt234.2 = bt236.2 then (if bt234.1 = bt236.1 then (if bt239.2.2 = bt243.2.2 then (if (!(bt239.1 == bt243.1) || (!(bt239.2.1 == bt243.2.1))) = true then (laws_FnSines.j0 k t233 bt234.1 bt234.2 bt239.2.2 bt247.2.2 true bt239.1 bt239.2.1 bt247.1 bt247.2.1) else (if bt247.2.2 = bt251.2.2 then (laws_FnSines.j0 k t233 bt234.1 bt234.2 bt239.2.2 bt247.2.2 (!(bt247.1 == bt251.1) || (!(bt247.2.1 == bt251.2.1))) bt239.1 bt239.2.1 bt247.1 bt247.2.1) else (laws_FnSines.j0 k t233 bt234.1 bt234.2 bt239.2.2 bt247.2.2 true bt239.1 bt239.2.1 bt247.1 bt247.2.1))) else (laws_FnSines.j0 k t233 bt234.1 bt234.2 bt239.2.2 bt247.2.2 true bt239.1 bt239.2.1 bt247.1 bt247.2.1)) else (laws_FnSines.j0 k t233 bt234.1 bt234.2 bt239.2.2 bt247.2.2 true bt239.1 bt239.2.1 bt247.1 bt247.2.1)) else (laws_FnSines.j0 k t233 bt234.1 bt234.2 bt239.2.2 bt247.2.2 true bt239.1 bt239.2.1 bt247.1 bt247.2.1))))))))) = some r := H
    have A4 := Aside0.mk A40
    clear A40
    replace H := Option.bind_eq_some_iff.mp H
    obtain ⟨⟨t234, t235⟩, A50, H⟩ := H
    replace H : ((spec_NanoSine.f k t233).bind fun bt236 => ((spec_DrawSineOf.f k l0).bind fun t238 => ((impl_SineOf.f k t238).bind fun bt239 => ((spec_SineOf.f k t238).bind fun bt243 => ((impl_CosineOf.f k t238).bind fun bt247 => ((spec_CosineOf.f k t238).bind fun bt251 => (if t235 = bt236.2 then (if t234 = bt236.1 then (if bt239.2.2 = bt243.2.2 then (if (!(bt239.1 == bt243.1) || (!(bt239.2.1 == bt243.2.1))) = true then (laws_FnSines.j0 k t233 t234 t235 bt239.2.2 bt247.2.2 true bt239.1 bt239.2.1 bt247.1 bt247.2.1) else (if bt247.2.2 = bt251.2.2 then (laws_FnSines.j0 k t233 t234 t235 bt239.2.2 bt247.2.2 (!(bt247.1 == bt251.1) || (!(bt247.2.1 == bt251.2.1))) bt239.1 bt239.2.1 bt247.1 bt247.2.1) else (laws_FnSines.j0 k t233 t234 t235 bt239.2.2 bt247.2.2 true bt239.1 bt239.2.1 bt247.1 bt247.2.1))) else (laws_FnSines.j0 k t233 t234 t235 bt239.2.2 bt247.2.2 true bt239.1 bt239.2.1 bt247.1 bt247.2.1)) else (laws_FnSines.j0 k t233 t234 t235 bt239.2.2 bt247.2.2 true bt239.1 bt239.2.1 bt247.1 bt247.2.1)) else (laws_FnSines.j0 k t233 t234 t235 bt239.2.2 bt247.2.2 true bt239.1 bt239.2.1 bt247.1 bt247.2.1)))))))) = some r := H
    have A5 := Aside0.mk A50
    clear A50
    replace H := Option.bind_eq_some_iff.mp H
    obtain ⟨⟨t236, t237⟩, A60, H⟩ := H
    replace H : ((spec_DrawSineOf.f k l0).bind fun t238 => ((impl_SineOf.f k t238).bind fun bt239 => ((spec_SineOf.f k t238).bind fun bt243 => ((impl_CosineOf.f k t238).bind fun bt247 => ((spec_CosineOf.f k t238).bind fun bt251 => (if t235 = t237 then (if t234 = t236 then (if bt239.2.2 = bt243.2.2 then (if (!(bt239.1 == bt243.1) || (!(bt239.2.1 == bt243.2.1))) = true then (laws_FnSines.j0 k t233 t234 t235 bt239.2.2 bt247.2.2 true bt239.1 bt239.2.1 bt247.1 bt247.2.1) else (if bt247.2.2 = bt251.2.2 then (laws_FnSines.j0 k t233 t234 t235 bt239.2.2 bt247.2.2 (!(bt247.1 == bt251.1) || (!(bt247.2.1 == bt251.2.1))) bt239.1 bt239.2.1 bt247.1 bt247.2.1) else (laws_FnSines.j0 k t233 t234 t235 bt239.2.2 bt247.2.2 true bt239.1 bt239.2.1 bt247.1 bt247.2.1))) else (laws_FnSines.j0 k t233 t234 t235 bt239.2.2 bt247.2.2 true bt239.1 bt239.2.1 bt247.1 bt247.2.1)) else (laws_FnSines.j0 k t233 t234 t235 bt239.2.2 bt247.2.2 true bt239.1 bt239.2.1 bt247.1 bt247.2.1)) else (laws_FnSines.j0 k t233 t234 t235 bt239.2.2 bt247.2.2 true bt239.1 bt239.2.1 bt247.1 bt247.2.1))))))) = some r := H
    have A6 := Aside0.mk A60
    clear A60
    replace H := Option.bind_eq_some_iff.mp H
    obtain ⟨t238, A70, H⟩ := H
    replace H : ((impl_SineOf.f k t238).bind fun bt239 => ((spec_SineOf.f k t238).bind fun bt243 => ((impl_CosineOf.f k t238).bind fun bt247 => ((spec_CosineOf.f k t238).bind fun bt251 => (if t235 = t237 then (if t234 = t236 then (if bt239.2.2 = bt243.2.2 then (if (!(bt239.1 == bt243.1) || (!(bt239.2.1 == bt243.2.1))) = true then (laws_FnSines.j0 k t233 t234 t235 bt239.2.2 bt247.2.2 true bt239.1 bt239.2.1 bt247.1 bt247.2.1) else (if bt247.2.2 = bt251.2.2 then (laws_FnSines.j0 k t233 t234 t235 bt239.2.2 bt247.2.2 (!(bt247.1 == bt251.1) || (!(bt247.2.1 == bt251.2.1))) bt239.1 bt239.2.1 bt247.1 bt247.2.1) else (laws_FnSines.j0 k t233 t234 t235 bt239.2.2 bt247.2.2 true bt239.1 bt239.2.1 bt247.1 bt247.2.1))) else (laws_FnSines.j0 k t233 t234 t235 bt239.2.2 bt247.2.2 true bt239.1 bt239.2.1 bt247.1 bt247.2.1)) else (laws_FnSines.j0 k t233 t234 t235 bt239.2.2 bt247.2.2 true bt239.1 bt239.2.1 bt247.1 bt247.2.1)) else (laws_FnSines.j0 k t233 t234 t235 bt239.2.2 bt247.2.2 true bt239.1 bt239.2.1 bt247.1 bt247.2.1)))))) = some r := H
    have A7 := Aside0.mk A70
    clear A70
    replace H := Option.bind_eq_some_iff.mp H
    obtain ⟨⟨t239, t240, t241⟩, A80, H⟩ := H
    replace H : ((spec_SineOf.f k t238).bind fun bt243 => ((impl_CosineOf.f k t238).bind fun bt247 => ((spec_CosineOf.f k t238).bind fun bt251 => (if t235 = t237 then (if t234 = t236 then (if t241 = bt243.2.2 then (if (!(t239 == bt243.1) || (!(t240 == bt243.2.1))) = true then (laws_FnSines.j0 k t233 t234 t235 t241 bt247.2.2 true t239 t240 bt247.1 bt247.2.1) else (if bt247.2.2 = bt251.2.2 then (laws_FnSines.j0 k t233 t234 t235 t241 bt247.2.2 (!(bt247.1 == bt251.1) || (!(bt247.2.1 == bt251.2.1))) t239 t240 bt247.1 bt247.2.1) else (laws_FnSines.j0 k t233 t234 t235 t241 bt247.2.2 true t239 t240 bt247.1 bt247.2.1))) else (laws_FnSines.j0 k t233 t234 t235 t241 bt247.2.2 true t239 t240 bt247.1 bt247.2.1)) else (laws_FnSines.j0 k t233 t234 t235 t241 bt247.2.2 true t239 t240 bt247.1 bt247.2.1)) else (laws_FnSines.j0 k t233 t234 t235 t241 bt247.2.2 true t239 t240 bt247.1 bt247.2.1))))) = some r := H
    have A8 := Aside0.mk A80
    clear A80
    replace H := Option.bind_eq_some_iff.mp H
    obtain ⟨⟨t243, t244, t245⟩, A90, H⟩ := H
    replace H : ((impl_CosineOf.f k t238).bind fun bt247 => ((spec_CosineOf.f k t238).bind fun bt251 => (if t235 = t237 then (if t234 = t236 then (if t241 = t245 then (if (!(t239 == t243) || (!(t240 == t244))) = true then (laws_FnSines.j0 k t233 t234 t235 t241 bt247.2.2 true t239 t240 bt247.1 bt247.2.1) else (if bt247.2.2 = bt251.2.2 then (laws_FnSines.j0 k t233 t234 t235 t241 bt247.2.2 (!(bt247.1 == bt251.1) || (!(bt247.2.1 == bt251.2.1))) t239 t240 bt247.1 bt247.2.1) else (laws_FnSines.j0 k t233 t234 t235 t241 bt247.2.2 true t239 t240 bt247.1 bt247.2.1))) else (laws_FnSines.j0 k t233 t234 t235 t241 bt247.2.2 true t239 t240 bt247.1 bt247.2.1)) else (laws_FnSines.j0 k t233 t234 t235 t241 bt247.2.2 true t239 t240 bt247.1 bt247.2.1)) else (laws_FnSines.j0 k t233 t234 t235 t241 bt247.2.2 true t239 t240 bt247.1 bt247.2.1)))) = some r := H
    have A9 := Aside0.mk A90
    clear A90
    replace H := Option.bind_eq_some_iff.mp H
    obtain ⟨⟨t247, t248, t249⟩, A100, H⟩ := H
    replace H : ((spec_CosineOf.f k t238).bind fun bt251 => (if t235 = t237 then (if t234 = t236 then (if t241 = t245 then (if (!(t239 == t243) || (!(t240 == t244))) = true then (laws_FnSines.j0 k t233 t234 t235 t241 t249 true t239 t240 t247 t248) else (if t249 = bt251.2.2 then (laws_FnSines.j0 k t233 t234 t235 t241 t249 (!(t247 == bt251.1) || (!(t248 == bt251.2.1))) t239 t240 t247 t248) else (laws_FnSines.j0 k t233 t234 t235 t241 t249 true t239 t240 t247 t248))) else (laws_FnSines.j0 k t233 t234 t235 t241 t249 true t239 t240 t247 t248)) else (laws_FnSines.j0 k t233 t234 t235 t241 t249 true t239 t240 t247 t248)) else (laws_FnSines.j0 k t233 t234 t235 t241 t249 true t239 t240 t247 t248))) = some r := H
    have A10 := Aside0.mk A100
    clear A100
    replace H := Option.bind_eq_some_iff.mp H
    obtain ⟨⟨t251, t252, t253⟩, A110, H⟩ := H
    replace H : (if t235 = t237 then (if t234 = t236 then (if t241 = t245 then (if (!(t239 == t243) || (!(t240 == t244))) = true then (laws_FnSines.j0 k t233 t234 t235 t241 t249 true t239 t240 t247 t248) else (if t249 = t253 then (laws_FnSines.j0 k t233 t234 t235 t241 t249 (!(t247 == t251) || (!(t248 == t252))) t239 t240 t247 t248) else (laws_FnSines.j0 k t233 t234 t235 t241 t249 true t239 t240 t247 t248))) else (laws_FnSines.j0 k t233 t234 t235 t241 t249 true t239 t240 t247 t248)) else (laws_FnSines.j0 k t233 t234 t235 t241 t249 true t239 t240 t247 t248)) else (laws_FnSines.j0 k t233 t234 t235 t241 t249 true t239 t240 t247 t248)) = some r := H
    have A11 := Aside0.mk A110
    clear A110
    have HC12 := Aside0.mk H
    clear H
    go_enter Try.func6, Try.ntmps6
    go_upto_region 11 with (first | ((with_reducible refine gate_callee (f := 9) rfl ?_); refine goesL_ (some 25) rfl rfl Try.func9 (by kernel_rfl) rfl #[.slice A0 l0.length c0] rfl (by (try simp only [List.map_toArray, List.map_cons, List.map_nil]); first | done | rfl | (simp only [List.length_drop, List.length_take]; rfl)) ?_; (with_reducible refine (laws_big.calls _ _ l0 false _ ?side1 ?side2 A2.out).mono ?_); (case side1 => repeat (first | exact HR0.out | (with_reducible refine Kd.C_alloc ?_ _) | (with_reducible refine Kd.C_drewN ?_ _) | (with_reducible refine Kd.C_drew ?_))); (case side2 => exact HC0.out); rintro e w' ⟨rfl, ⟨nd, rfl⟩⟩; refine ⟨_, rfl, ?_⟩) | ((with_reducible refine gate_callee (f := 32) rfl ?_); refine goesL_ (some 27) rfl rfl Try.func32 (by kernel_rfl) rfl #[.slice A0 l0.length c0] rfl (by (try simp only [List.map_toArray, List.map_cons, List.map_nil]); first | done | rfl | (simp only [List.length_drop, List.length_take]; rfl)) ?_; (with_reducible refine (spec_DrawNanoSine.calls k _ _ l0 t233 _ ?side1 ?side2 A4.out).mono ?_); (case side1 => repeat (first | exact HR0.out | (with_reducible refine Kd.C_alloc ?_ _) | (with_reducible refine Kd.C_drewN ?_ _) | (with_reducible refine Kd.C_drew ?_))); (case side2 => exact HC0.out); rintro e w13 ⟨rfl, hb⟩; refine ⟨_, rfl, ?_⟩; have n0_ := Aside0.mk (below_step (by repeat (first | (with_reducible first | exact HB.out | apply below_alloc | apply pw_below_drewN | apply below_drew1) | exact HB.out)) hb); clear HB; have HB := n0_; clear n0_; (try clear hb); (try clear hb2); (try clear hk); (try clear hi)) | ((with_reducible refine gate_callee (f := 33) rfl ?_); refine goesL_ (some 30) rfl rfl Try.func33 (by kernel_rfl) rfl #[.int .i64 t233] rfl (by (try simp only [List.map_toArray, List.map_cons, List.map_nil]); first | done | rfl | (simp only [List.length_drop, List.length_take]; rfl)) ?_; (with_reducible refine (impl_NanoSine.calls k t233 t234 t235 _ A5.out).mono ?_); rintro e w' ⟨rfl, ⟨nd, rfl⟩⟩; refine ⟨_, rfl, ?_⟩; (try (rw [drewN_self w13]; generalize hq_ : World.drewN w13 _ = w13; have n0_ : Aside0 (Below w.heap.size w w13) := ⟨by rw [← hq_]; exact (by repeat (first | (with_reducible first | exact HB.out | apply below_alloc | apply pw_below_drewN | apply below_drew1) | exact HB.out))⟩; clear HB hq_; have HB := n0_; clear n0_))) | ((with_reducible refine gate_callee (f := 34) rfl ?_); refine goesL_ (some 35) rfl rfl Try.func34 (by kernel_rfl) rfl #[.int .i64 t233] rfl (by (try simp only [List.map_toArray, List.map_cons, List.map_nil]); first | done | rfl | (simp only [List.length_drop, List.length_take]; rfl)) ?_; (with_reducible refine (spec_NanoSine.calls k t233 t236 t237 _ A6.out).mono ?_); rintro e w' ⟨rfl, ⟨nd, rfl⟩⟩; refine ⟨_, rfl, ?_⟩; (try (rw [drewN_self w13]; generalize hq_ : World.drewN w13 _ = w13; have n0_ : Aside0 (Below w.heap.size w w13) := ⟨by rw [← hq_]; exact (by repeat (first | (with_reducible first | exact HB.out | apply below_alloc | apply pw_below_drewN | apply below_drew1) | exact HB.out))⟩; clear HB hq_; have HB := n0_; clear n0_))) | ((with_reducible refine gate_callee (f := 35) rfl ?_); refine goesL_ (some 39) rfl rfl Try.func35 (by kernel_rfl) rfl #[.slice A0 l0.length c0] rfl (by (try simp only [List.map_toArray, List.map_cons, List.map_nil]); first | done | rfl | (simp only [List.length_drop, List.length_take]; rfl)) ?_; (with_reducible refine (spec_DrawSineOf.calls k _ _ l0 t238 _ ?side1 ?side2 A7.out).mono ?_); (case side1 => repeat (first | exact (Kd.C_below HR0.out HB.out) | (with_reducible refine Kd.C_alloc ?_ _) | (with_reducible refine Kd.C_drewN ?_ _) | (with_reducible refine Kd.C_drew ?_))); (case side2 => exact HC0.out); rintro e w14 ⟨rfl, hb⟩; refine ⟨_, rfl, ?_⟩; have n0_ := Aside0.mk (below_step (by repeat (first | (with_reducible first | exact HB.out | apply below_alloc | apply pw_below_drewN | apply below_drew1) | exact HB.out)) hb); clear HB; have HB := n0_; clear n0_; (try clear hb); (try clear hb2); (try clear hk); (try clear hi)) | ((with_reducible refine gate_callee (f := 36) rfl ?_); refine goesL_ (some 42) rfl rfl Try.func36 (by kernel_rfl) rfl #[.int .i64 t238] rfl (by (try simp only [List.map_toArray, List.map_cons, List.map_nil]); first | done | rfl | (simp only [List.length_drop, List.length_take]; rfl)) ?_; (with_reducible refine (impl_SineOf.calls k t238 t239 t240 t241 _ A8.out).mono ?_); rintro e w15 ⟨rfl, hb⟩; refine ⟨_, rfl, ?_⟩; have n0_ := Aside0.mk (below_step (by repeat (first | (with_reducible first | exact HB.out | apply below_alloc | apply pw_below_drewN | apply below_drew1) | exact HB.out)) hb); clear HB; have HB := n0_; clear n0_; (try clear hb); (try clear hb2); (try clear hk); (try clear hi)) | ((with_reducible refine gate_dst (N := 9) rfl ?_); refine box_event ?hg (N := 9) ?hd (cs := #[.int .i64 0, .int .i64 0]) (t := 33) ?hr ?_; (case hd => rfl); (case hg => rfl); (case hr => first | (go_simp; done) | (go_simp; rfl)); intro gb242 hg w16 hbox hb; have n0_ := Aside0.mk (below_step (by repeat (first | (with_reducible first | exact HB.out | apply below_alloc | apply pw_below_drewN | apply below_drew1) | exact HB.out)) hb); have n1_ := Aside0.mk (hbox); have n2_ := Aside0.mk ((by rw [hg]; exact (below_size (by repeat (first | (with_reducible first | exact HB.out | apply below_alloc | apply pw_below_drewN | apply below_drew1) | exact HB.out))) : w.heap.size ≤ gb242)); have n3_ := Aside0.mk ((by rw [hg]; exact (below_size (by repeat (first | (with_reducible first | exact HB.out | apply below_alloc | apply pw_below_drewN | apply below_drew1) | exact HB.out))) : w.heap.size ≤ gb242)); clear HB; have HB := n0_; have BK242 := n1_; have GW242 := n2_; have GE242 := n3_; clear n0_ n1_ n2_ n3_; clear hb hbox hg; have hcz17_0 : w16.cell? ⟨gb242, 0, none⟩ = some (.int .i64 0) := (blk_cell BK242.out 0).trans rfl; have hcz17_1 : w16.cell? ⟨gb242, 1, none⟩ = some (.int .i64 0) := (blk_cell BK242.out 1).trans rfl; have hfz17_0 := blk_frozen BK242.out 0; have hfz17_1 := blk_frozen BK242.out 1) | ((with_reducible refine gate_callee (f := 37) rfl ?_); refine goesL_ (some 47) rfl rfl Try.func37 (by kernel_rfl) rfl #[.int .i64 t238] rfl (by (try simp only [List.map_toArray, List.map_cons, List.map_nil]); first | done | rfl | (simp only [List.length_drop, List.length_take]; rfl)) ?_; (with_reducible refine (spec_SineOf.calls k t238 t243 t244 t245 _ A9.out).mono ?_); rintro e w18 ⟨rfl, hb⟩; refine ⟨_, rfl, ?_⟩; have n0_ := Aside0.mk (blk_below (g := gb242) (o := .cells #[.int .i64 t239, .int .i64 t240] 33 (0, 0)) (by (with_reducible repeat (first | refine blk_drewN ?_ _ | refine blk_drew ?_ | refine blk_alloc ?_ _)); refine blk_put (cs := #[.int .i64 t239, .int .i64 0]) ?_ 1 _ rfl; (with_reducible repeat (first | refine blk_drewN ?_ _ | refine blk_drew ?_ | refine blk_alloc ?_ _)); refine blk_put (cs := #[.int .i64 0, .int .i64 0]) ?_ 0 _ rfl; (with_reducible repeat (first | refine blk_drewN ?_ _ | refine blk_drew ?_ | refine blk_alloc ?_ _)); exact BK242.out) hb); have n1_ := Aside0.mk (below_step (by repeat (first | (with_reducible first | exact HB.out | apply below_alloc | apply pw_below_drewN | apply below_drew1 | refine below_set ?_ GE242.out) | exact HB.out)) hb); clear BK242; clear HB; have BK242 := n0_; have HB := n1_; clear n0_ n1_; (try clear hb); (try clear hb2); (try clear hk); (try clear hi)) | ((with_reducible refine gate_dst (N := 11) rfl ?_); refine box_event ?hg (N := 11) ?hd (cs := #[.int .i64 0, .int .i64 0]) (t := 33) ?hr ?_; (case hd => rfl); (case hg => rfl); (case hr => first | (go_simp; done) | (go_simp; rfl)); intro gb246 hg w19 hbox hb; have n0_ := Aside0.mk (blk_below (g := gb242) (o := .cells #[.int .i64 t239, .int .i64 t240] 33 (0, 0)) (by (with_reducible repeat (first | refine blk_drewN ?_ _ | refine blk_drew ?_ | refine blk_alloc ?_ _)); exact BK242.out) hb); have n1_ := Aside0.mk (below_step (by repeat (first | (with_reducible first | exact HB.out | apply below_alloc | apply pw_below_drewN | apply below_drew1 | refine below_set ?_ GE242.out) | exact HB.out)) hb); have n2_ := Aside0.mk (hbox); have n3_ := Aside0.mk ((by rw [hg]; exact (below_size (by repeat (first | (with_reducible first | exact HB.out | apply below_alloc | apply pw_below_drewN | apply below_drew1 | refine below_set ?_ GE242.out) | exact HB.out))) : w.heap.size ≤ gb246)); have n4_ := Aside0.mk ((by rw [hg]; exact (below_size (by repeat (first | (with_reducible first | exact HB.out | apply below_alloc | apply pw_below_drewN | apply below_drew1 | refine below_set ?_ GE242.out) | exact HB.out))) : w.heap.size ≤ gb246)); have n5_ := Aside0.mk ((by rw [hg]; exact Nat.ne_of_lt (blk_lt (g := gb242) (o := .cells #[.int .i64 t239, .int .i64 t240] 33 (0, 0)) (by (with_reducible repeat (first | refine blk_drewN ?_ _ | refine blk_drew ?_ | refine blk_alloc ?_ _)); exact BK242.out)) : gb242 ≠ gb246)); have n6_ := Aside0.mk ((by rw [hg]; exact Nat.ne_of_gt (blk_lt (g := gb242) (o := .cells #[.int .i64 t239, .int .i64 t240] 33 (0, 0)) (by (with_reducible repeat (first | refine blk_drewN ?_ _ | refine blk_drew ?_ | refine blk_alloc ?_ _)); exact BK242.out)) : gb246 ≠ gb242)); clear BK242; clear HB; have BK242 := n0_; have HB := n1_; have BK246 := n2_; have GW246 := n3_; have GE246 := n4_; have NB242_246 := n5_; have NB246_242 := n6_; clear n0_ n1_ n2_ n3_ n4_ n5_ n6_; clear hb hbox hg; have hnb20 := NB246_242.out; have hnc20 := NB242_246.out; have hcz21_0 : w19.cell? ⟨gb246, 0, none⟩ = some (.int .i64 0) := (blk_cell BK246.out 0).trans rfl; have hcz21_1 : w19.cell? ⟨gb246, 1, none⟩ = some (.int .i64 0) := (blk_cell BK246.out 1).trans rfl; have hfz21_0 := blk_frozen BK246.out 0; have hfz21_1 := blk_frozen BK246.out 1) | ((with_reducible refine gate_callee (f := 38) rfl ?_); refine goesL_ (some 52) rfl rfl Try.func38 (by kernel_rfl) rfl #[.int .i64 t238] rfl (by (try simp only [List.map_toArray, List.map_cons, List.map_nil]); first | done | rfl | (simp only [List.length_drop, List.length_take]; rfl)) ?_; (with_reducible refine (impl_CosineOf.calls k t238 t247 t248 t249 _ A10.out).mono ?_); rintro e w22 ⟨rfl, hb⟩; refine ⟨_, rfl, ?_⟩; have n0_ := Aside0.mk (blk_below (g := gb242) (o := .cells #[.int .i64 t239, .int .i64 t240] 33 (0, 0)) (by (with_reducible repeat (first | refine blk_drewN ?_ _ | refine blk_drew ?_ | refine blk_alloc ?_ _)); refine blk_far ?_ NB242_246.out _; (with_reducible repeat (first | refine blk_drewN ?_ _ | refine blk_drew ?_ | refine blk_alloc ?_ _)); refine blk_far ?_ NB242_246.out _; (with_reducible repeat (first | refine blk_drewN ?_ _ | refine blk_drew ?_ | refine blk_alloc ?_ _)); exact BK242.out) hb); have n1_ := Aside0.mk (blk_below (g := gb246) (o := .cells #[.int .i64 t243, .int .i64 t244] 33 (0, 0)) (by (with_reducible repeat (first | refine blk_drewN ?_ _ | refine blk_drew ?_ | refine blk_alloc ?_ _)); refine blk_put (cs := #[.int .i64 t243, .int .i64 0]) ?_ 1 _ rfl; (with_reducible repeat (first | refine blk_drewN ?_ _ | refine blk_drew ?_ | refine blk_alloc ?_ _)); refine blk_put (cs := #[.int .i64 0, .int .i64 0]) ?_ 0 _ rfl; (with_reducible repeat (first | refine blk_drewN ?_ _ | refine blk_drew ?_ | refine blk_alloc ?_ _)); exact BK246.out) hb); have n2_ := Aside0.mk (below_step (by repeat (first | (with_reducible first | exact HB.out | apply below_alloc | apply pw_below_drewN | apply below_drew1 | refine below_set ?_ GE242.out | refine below_set ?_ GE246.out) | exact HB.out)) hb); clear BK242; clear BK246; clear HB; have BK242 := n0_; have BK246 := n1_; have HB := n2_; clear n0_ n1_ n2_; (try clear hb); (try clear hb2); (try clear hk); (try clear hi)) | ((with_reducible refine gate_dst (N := 13) rfl ?_); refine box_event ?hg (N := 13) ?hd (cs := #[.int .i64 0, .int .i64 0]) (t := 33) ?hr ?_; (case hd => rfl); (case hg => rfl); (case hr => first | (go_simp; done) | (go_simp; rfl)); intro gb250 hg w23 hbox hb; have n0_ := Aside0.mk (blk_below (g := gb242) (o := .cells #[.int .i64 t239, .int .i64 t240] 33 (0, 0)) (by (with_reducible repeat (first | refine blk_drewN ?_ _ | refine blk_drew ?_ | refine blk_alloc ?_ _)); exact BK242.out) hb); have n1_ := Aside0.mk (blk_below (g := gb246) (o := .cells #[.int .i64 t243, .int .i64 t244] 33 (0, 0)) (by (with_reducible repeat (first | refine blk_drewN ?_ _ | refine blk_drew ?_ | refine blk_alloc ?_ _)); exact BK246.out) hb); have n2_ := Aside0.mk (below_step (by repeat (first | (with_reducible first | exact HB.out | apply below_alloc | apply pw_below_drewN | apply below_drew1 | refine below_set ?_ GE242.out | refine below_set ?_ GE246.out) | exact HB.out)) hb); have n3_ := Aside0.mk (hbox); have n4_ := Aside0.mk ((by rw [hg]; exact (below_size (by repeat (first | (with_reducible first | exact HB.out | apply below_alloc | apply pw_below_drewN | apply below_drew1 | refine below_set ?_ GE242.out | refine below_set ?_ GE246.out) | exact HB.out))) : w.heap.size ≤ gb250)); have n5_ := Aside0.mk ((by rw [hg]; exact (below_size (by repeat (first | (with_reducible first | exact HB.out | apply below_alloc | apply pw_below_drewN | apply below_drew1 | refine below_set ?_ GE242.out | refine below_set ?_ GE246.out) | exact HB.out))) : w.heap.size ≤ gb250)); have n6_ := Aside0.mk ((by rw [hg]; exact Nat.ne_of_lt (blk_lt (g := gb242) (o := .cells #[.int .i64 t239, .int .i64 t240] 33 (0, 0)) (by (with_reducible repeat (first | refine blk_drewN ?_ _ | refine blk_drew ?_ | refine blk_alloc ?_ _)); exact BK242.out)) : gb242 ≠ gb250)); have n7_ := Aside0.mk ((by rw [hg]; exact Nat.ne_of_gt (blk_lt (g := gb242) (o := .cells #[.int .i64 t239, .int .i64 t240] 33 (0, 0)) (by (with_reducible repeat (first | refine blk_drewN ?_ _ | refine blk_drew ?_ | refine blk_alloc ?_ _)); exact BK242.out)) : gb250 ≠ gb242)); have n8_ := Aside0.mk ((by rw [hg]; exact Nat.ne_of_lt (blk_lt (g := gb246) (o := .cells #[.int .i64 t243, .int .i64 t244] 33 (0, 0)) (by (with_reducible repeat (first | refine blk_drewN ?_ _ | refine blk_drew ?_ | refine blk_alloc ?_ _)); exact BK246.out)) : gb246 ≠ gb250)); have n9_ := Aside0.mk ((by rw [hg]; exact Nat.ne_of_gt (blk_lt (g := gb246) (o := .cells #[.int .i64 t243, .int .i64 t244] 33 (0, 0)) (by (with_reducible repeat (first | refine blk_drewN ?_ _ | refine blk_drew ?_ | refine blk_alloc ?_ _)); exact BK246.out)) : gb250 ≠ gb246)); clear BK242; clear BK246; clear HB; have BK242 := n0_; have BK246 := n1_; have HB := n2_; have BK250 := n3_; have GW250 := n4_; have GE250 := n5_; have NB242_250 := n6_; have NB250_242 := n7_; have NB246_250 := n8_; have NB250_246 := n9_; clear n0_ n1_ n2_ n3_ n4_ n5_ n6_ n7_ n8_ n9_; clear hb hbox hg; have hnb24 := NB250_242.out; have hnc24 := NB242_250.out; have hnb25 := NB250_246.out; have hnc25 := NB246_250.out; have hcz26_0 : w23.cell? ⟨gb250, 0, none⟩ = some (.int .i64 0) := (blk_cell BK250.out 0).trans rfl; have hcz26_1 : w23.cell? ⟨gb250, 1, none⟩ = some (.int .i64 0) := (blk_cell BK250.out 1).trans rfl; have hfz26_0 := blk_frozen BK250.out 0; have hfz26_1 := blk_frozen BK250.out 1) | ((with_reducible refine gate_callee (f := 39) rfl ?_); refine goesL_ (some 57) rfl rfl Try.func39 (by kernel_rfl) rfl #[.int .i64 t238] rfl (by (try simp only [List.map_toArray, List.map_cons, List.map_nil]); first | done | rfl | (simp only [List.length_drop, List.length_take]; rfl)) ?_; (with_reducible refine (spec_CosineOf.calls k t238 t251 t252 t253 _ A11.out).mono ?_); rintro e w27 ⟨rfl, hb⟩; refine ⟨_, rfl, ?_⟩; have n0_ := Aside0.mk (blk_below (g := gb242) (o := .cells #[.int .i64 t239, .int .i64 t240] 33 (0, 0)) (by (with_reducible repeat (first | refine blk_drewN ?_ _ | refine blk_drew ?_ | refine blk_alloc ?_ _)); refine blk_far ?_ NB242_250.out _; (with_reducible repeat (first | refine blk_drewN ?_ _ | refine blk_drew ?_ | refine blk_alloc ?_ _)); refine blk_far ?_ NB242_250.out _; (with_reducible repeat (first | refine blk_drewN ?_ _ | refine blk_drew ?_ | refine blk_alloc ?_ _)); exact BK242.out) hb); have n1_ := Aside0.mk (blk_below (g := gb246) (o := .cells #[.int .i64 t243, .int .i64 t244] 33 (0, 0)) (by (with_reducible repeat (first | refine blk_drewN ?_ _ | refine blk_drew ?_ | refine blk_alloc ?_ _)); refine blk_far ?_ NB246_250.out _; (with_reducible repeat (first | refine blk_drewN ?_ _ | refine blk_drew ?_ | refine blk_alloc ?_ _)); refine blk_far ?_ NB246_250.out _; (with_reducible repeat (first | refine blk_drewN ?_ _ | refine blk_drew ?_ | refine blk_alloc ?_ _)); exact BK246.out) hb); have n2_ := Aside0.mk (blk_below (g := gb250) (o := .cells #[.int .i64 t247, .int .i64 t248] 33 (0, 0)) (by (with_reducible repeat (first | refine blk_drewN ?_ _ | refine blk_drew ?_ | refine blk_alloc ?_ _)); refine blk_put (cs := #[.int .i64 t247, .int .i64 0]) ?_ 1 _ rfl; (with_reducible repeat (first | refine blk_drewN ?_ _ | refine blk_drew ?_ | refine blk_alloc ?_ _)); refine blk_put (cs := #[.int .i64 0, .int .i64 0]) ?_ 0 _ rfl; (with_reducible repeat (first | refine blk_drewN ?_ _ | refine blk_drew ?_ | refine blk_alloc ?_ _)); exact BK250.out) hb); have n3_ := Aside0.mk (below_step (by repeat (first | (with_reducible first | exact HB.out | apply below_alloc | apply pw_below_drewN | apply below_drew1 | refine below_set ?_ GE242.out | refine below_set ?_ GE246.out | refine below_set ?_ GE250.out) | exact HB.out)) hb); clear BK242; clear BK246; clear BK250; clear HB; have BK242 := n0_; have BK246 := n1_; have BK250 := n2_; have HB := n3_; clear n0_ n1_ n2_ n3_; (try clear hb); (try clear hb2); (try clear hk); (try clear hi)) | ((with_reducible refine gate_dst (N := 15) rfl ?_); refine box_event ?hg (N := 15) ?hd (cs := #[.int .i64 0, .int .i64 0]) (t := 33) ?hr ?_; (case hd => rfl); (case hg => rfl); (case hr => first | (go_simp; done) | (go_simp; rfl)); intro gb254 hg w28 hbox hb; have n0_ := Aside0.mk (blk_below (g := gb242) (o := .cells #[.int .i64 t239, .int .i64 t240] 33 (0, 0)) (by (with_reducible repeat (first | refine blk_drewN ?_ _ | refine blk_drew ?_ | refine blk_alloc ?_ _)); exact BK242.out) hb); have n1_ := Aside0.mk (blk_below (g := gb246) (o := .cells #[.int .i64 t243, .int .i64 t244] 33 (0, 0)) (by (with_reducible repeat (first | refine blk_drewN ?_ _ | refine blk_drew ?_ | refine blk_alloc ?_ _)); exact BK246.out) hb); have n2_ := Aside0.mk (blk_below (g := gb250) (o := .cells #[.int .i64 t247, .int .i64 t248] 33 (0, 0)) (by (with_reducible repeat (first | refine blk_drewN ?_ _ | refine blk_drew ?_ | refine blk_alloc ?_ _)); exact BK250.out) hb); have n3_ := Aside0.mk (below_step (by repeat (first | (with_reducible first | exact HB.out | apply below_alloc | apply pw_below_drewN | apply below_drew1 | refine below_set ?_ GE242.out | refine below_set ?_ GE246.out | refine below_set ?_ GE250.out) | exact HB.out)) hb); have n4_ := Aside0.mk (hbox); have n5_ := Aside0.mk ((by rw [hg]; exact (below_size (by repeat (first | (with_reducible first | exact HB.out | apply below_alloc | apply pw_below_drewN | apply below_drew1 | refine below_set ?_ GE242.out | refine below_set ?_ GE246.out | refine below_set ?_ GE250.out) | exact HB.out))) : w.heap.size ≤ gb254)); have n6_ := Aside0.mk ((by rw [hg]; exact (below_size (by repeat (first | (with_reducible first | exact HB.out | apply below_alloc | apply pw_below_drewN | apply below_drew1 | refine below_set ?_ GE242.out | refine below_set ?_ GE246.out | refine below_set ?_ GE250.out) | exact HB.out))) : w.heap.size ≤ gb254)); have n7_ := Aside0.mk ((by rw [hg]; exact Nat.ne_of_lt (blk_lt (g := gb242) (o := .cells #[.int .i64 t239, .int .i64 t240] 33 (0, 0)) (by (with_reducible repeat (first | refine blk_drewN ?_ _ | refine blk_drew ?_ | refine blk_alloc ?_ _)); exact BK242.out)) : gb242 ≠ gb254)); have n8_ := Aside0.mk ((by rw [hg]; exact Nat.ne_of_gt (blk_lt (g := gb242) (o := .cells #[.int .i64 t239, .int .i64 t240] 33 (0, 0)) (by (with_reducible repeat (first | refine blk_drewN ?_ _ | refine blk_drew ?_ | refine blk_alloc ?_ _)); exact BK242.out)) : gb254 ≠ gb242)); have n9_ := Aside0.mk ((by rw [hg]; exact Nat.ne_of_lt (blk_lt (g := gb246) (o := .cells #[.int .i64 t243, .int .i64 t244] 33 (0, 0)) (by (with_reducible repeat (first | refine blk_drewN ?_ _ | refine blk_drew ?_ | refine blk_alloc ?_ _)); exact BK246.out)) : gb246 ≠ gb254)); have n10_ := Aside0.mk ((by rw [hg]; exact Nat.ne_of_gt (blk_lt (g := gb246) (o := .cells #[.int .i64 t243, .int .i64 t244] 33 (0, 0)) (by (with_reducible repeat (first | refine blk_drewN ?_ _ | refine blk_drew ?_ | refine blk_alloc ?_ _)); exact BK246.out)) : gb254 ≠ gb246)); have n11_ := Aside0.mk ((by rw [hg]; exact Nat.ne_of_lt (blk_lt (g := gb250) (o := .cells #[.int .i64 t247, .int .i64 t248] 33 (0, 0)) (by (with_reducible repeat (first | refine blk_drewN ?_ _ | refine blk_drew ?_ | refine blk_alloc ?_ _)); exact BK250.out)) : gb250 ≠ gb254)); have n12_ := Aside0.mk ((by rw [hg]; exact Nat.ne_of_gt (blk_lt (g := gb250) (o := .cells #[.int .i64 t247, .int .i64 t248] 33 (0, 0)) (by (with_reducible repeat (first | refine blk_drewN ?_ _ | refine blk_drew ?_ | refine blk_alloc ?_ _)); exact BK250.out)) : gb254 ≠ gb250)); clear BK242; clear BK246; clear BK250; clear HB; have BK242 := n0_; have BK246 := n1_; have BK250 := n2_; have HB := n3_; have BK254 := n4_; have GW254 := n5_; have GE254 := n6_; have NB242_254 := n7_; have NB254_242 := n8_; have NB246_254 := n9_; have NB254_246 := n10_; have NB250_254 := n11_; have NB254_250 := n12_; clear n0_ n1_ n2_ n3_ n4_ n5_ n6_ n7_ n8_ n9_ n10_ n11_ n12_; clear hb hbox hg; have hnb29 := NB254_242.out; have hnc29 := NB242_254.out; have hnb30 := NB254_246.out; have hnc30 := NB246_254.out; have hnb31 := NB254_250.out; have hnc31 := NB250_254.out; have hcz32_0 : w28.cell? ⟨gb254, 0, none⟩ = some (.int .i64 0) := (blk_cell BK254.out 0).trans rfl; have hcz32_1 : w28.cell? ⟨gb254, 1, none⟩ = some (.int .i64 0) := (blk_cell BK254.out 1).trans rfl; have hfz32_0 := blk_frozen BK254.out 0; have hfz32_1 := blk_frozen BK254.out 1))
    (try simp only [Act.put, List.setIfInBounds_toArray, List.set_cons_zero, List.set_cons_succ])
    go_cut [87] (fun v87 wc => ∃ (kq : Nat) (x87_11 : Bool), v87 = .bool x87_11 ∧ Aside0 (laws_FnSines.j0 kq t233 t234 t235 t241 t249 x87_11 t239 t240 t247 t248 = some r) ∧ Aside0 (kq ≤ k) ∧ Aside0 (wc.heap[gb242]? = some (.cells #[.int .i64 t239, .int .i64 t240] 33 (0, 0))) ∧ Aside0 (wc.heap[gb246]? = some (.cells #[.int .i64 t243, .int .i64 t244] 33 (0, 0))) ∧ Aside0 (wc.heap[gb250]? = some (.cells #[.int .i64 t247, .int .i64 t248] 33 (0, 0))) ∧ Aside0 (wc.heap[gb254]? = some (.cells #[.int .i64 t251, .int .i64 t252] 33 (0, 0))) ∧ Aside0 (Below w.heap.size w wc))
    case first =>
      have H := HC12.out
      clear HC12
      by_cases c33 : t235 = t237
      · rw [if_pos c33] at H
        have c33b0 : (t235 == t237) = true := beq_iff_eq.mpr c33
        have c33b1 : (t235 != t237) = false := bne_eq_false_iff_eq.mpr c33
        clear c33
        (first | rw [c33b0] | (simp only [i64_w, i32_w]; rw [c33b0]) | skip)
        by_cases c34 : t234 = t236
        · rw [if_pos c34] at H
          have c34b0 : (t234 == t236) = true := beq_iff_eq.mpr c34
          have c34b1 : (t234 != t236) = false := bne_eq_false_iff_eq.mpr c34
          clear c34
          by_cases c35 : t241 = t245
          · rw [if_pos c35] at H
            have c35b0 : (t241 == t245) = true := beq_iff_eq.mpr c35
            have c35b1 : (t241 != t245) = false := bne_eq_false_iff_eq.mpr c35
            clear c35
            by_cases c36 : (!(t239 == t243) || (!(t240 == t244))) = true
            · rw [if_pos c36] at H
              have c36b0 : (!(t239 == t243) || (!(t240 == t244))) = true := c36
              clear c36
              have H' := Aside0.mk H
              clear H
              have hnb37 := NB242_246.out
              have hnc37 := NB246_242.out
              have hnb38 := NB242_250.out
              have hnc38 := NB250_242.out
              have hnb39 := NB242_254.out
              have hnc39 := NB254_242.out
              have hcz40_0 : w28.cell? ⟨gb242, 0, none⟩ = some (.int .i64 t239) := (blk_cell BK242.out 0).trans rfl
              have hcz40_1 : w28.cell? ⟨gb242, 1, none⟩ = some (.int .i64 t240) := (blk_cell BK242.out 1).trans rfl
              have hfz40_0 := blk_frozen BK242.out 0
              have hfz40_1 := blk_frozen BK242.out 1
              have hnb41 := NB246_250.out
              have hnc41 := NB250_246.out
              have hnb42 := NB246_254.out
              have hnc42 := NB254_246.out
              have hcz43_0 : w28.cell? ⟨gb246, 0, none⟩ = some (.int .i64 t243) := (blk_cell BK246.out 0).trans rfl
              have hcz43_1 : w28.cell? ⟨gb246, 1, none⟩ = some (.int .i64 t244) := (blk_cell BK246.out 1).trans rfl
              have hfz43_0 := blk_frozen BK246.out 0
              have hfz43_1 := blk_frozen BK246.out 1
              go_wp2
              go_meet
              case rel => exact ⟨_, (true), (by first | rfl | (simp; done) | (simp [*]; done)), H', ⟨by first | omega | exact Nat.le_refl _⟩, ⟨by (with_reducible repeat (first | refine blk_drewN ?_ _ | refine blk_drew ?_ | refine blk_alloc ?_ _)); refine blk_far ?_ NB242_254.out _; (with_reducible repeat (first | refine blk_drewN ?_ _ | refine blk_drew ?_ | refine blk_alloc ?_ _)); refine blk_far ?_ NB242_254.out _; (with_reducible repeat (first | refine blk_drewN ?_ _ | refine blk_drew ?_ | refine blk_alloc ?_ _)); exact BK242.out⟩, ⟨by (with_reducible repeat (first | refine blk_drewN ?_ _ | refine blk_drew ?_ | refine blk_alloc ?_ _)); refine blk_far ?_ NB246_254.out _; (with_reducible repeat (first | refine blk_drewN ?_ _ | refine blk_drew ?_ | refine blk_alloc ?_ _)); refine blk_far ?_ NB246_254.out _; (with_reducible repeat (first | refine blk_drewN ?_ _ | refine blk_drew ?_ | refine blk_alloc ?_ _)); exact BK246.out⟩, ⟨by (with_reducible repeat (first | refine blk_drewN ?_ _ | refine blk_drew ?_ | refine blk_alloc ?_ _)); refine blk_far ?_ NB250_254.out _; (with_reducible repeat (first | refine blk_drewN ?_ _ | refine blk_drew ?_ | refine blk_alloc ?_ _)); refine blk_far ?_ NB250_254.out _; (with_reducible repeat (first | refine blk_drewN ?_ _ | refine blk_drew ?_ | refine blk_alloc ?_ _)); exact BK250.out⟩, ⟨by (with_reducible repeat (first | refine blk_drewN ?_ _ | refine blk_drew ?_ | refine blk_alloc ?_ _)); refine blk_put (cs := #[.int .i64 t251, .int .i64 0]) ?_ 1 _ rfl; (with_reducible repeat (first | refine blk_drewN ?_ _ | refine blk_drew ?_ | refine blk_alloc ?_ _)); refine blk_put (cs := #[.int .i64 0, .int .i64 0]) ?_ 0 _ rfl; (with_reducible repeat (first | refine blk_drewN ?_ _ | refine blk_drew ?_ | refine blk_alloc ?_ _)); exact BK254.out⟩, ⟨by repeat (first | (with_reducible first | exact HB.out | apply below_alloc | apply pw_below_drewN | apply below_drew1 | refine below_set ?_ GE242.out | refine below_set ?_ GE246.out | refine below_set ?_ GE250.out | refine below_set ?_ GE254.out) | exact HB.out)⟩⟩
            · rw [if_neg c36] at H
              have c36b0 : (!(t239 == t243) || (!(t240 == t244))) = false := by simpa using c36
              clear c36
              by_cases c44 : t249 = t253
              · rw [if_pos c44] at H
                have c44b0 : (t249 == t253) = true := beq_iff_eq.mpr c44
                have c44b1 : (t249 != t253) = false := bne_eq_false_iff_eq.mpr c44
                clear c44
                have H' := Aside0.mk H
                clear H
                have hnb45 := NB242_246.out
                have hnc45 := NB246_242.out
                have hnb46 := NB242_250.out
                have hnc46 := NB250_242.out
                have hnb47 := NB242_254.out
                have hnc47 := NB254_242.out
                have hcz48_0 : w28.cell? ⟨gb242, 0, none⟩ = some (.int .i64 t239) := (blk_cell BK242.out 0).trans rfl
                have hcz48_1 : w28.cell? ⟨gb242, 1, none⟩ = some (.int .i64 t240) := (blk_cell BK242.out 1).trans rfl
                have hfz48_0 := blk_frozen BK242.out 0
                have hfz48_1 := blk_frozen BK242.out 1
                have hnb49 := NB246_250.out
                have hnc49 := NB250_246.out
                have hnb50 := NB246_254.out
                have hnc50 := NB254_246.out
                have hcz51_0 : w28.cell? ⟨gb246, 0, none⟩ = some (.int .i64 t243) := (blk_cell BK246.out 0).trans rfl
                have hcz51_1 : w28.cell? ⟨gb246, 1, none⟩ = some (.int .i64 t244) := (blk_cell BK246.out 1).trans rfl
                have hfz51_0 := blk_frozen BK246.out 0
                have hfz51_1 := blk_frozen BK246.out 1
                have hnb52 := NB250_254.out
                have hnc52 := NB254_250.out
                have hcz53_0 : w28.cell? ⟨gb250, 0, none⟩ = some (.int .i64 t247) := (blk_cell BK250.out 0).trans rfl
                have hcz53_1 : w28.cell? ⟨gb250, 1, none⟩ = some (.int .i64 t248) := (blk_cell BK250.out 1).trans rfl
                have hfz53_0 := blk_frozen BK250.out 0
                have hfz53_1 := blk_frozen BK250.out 1
                have hcz54_0 : w28.cell? ⟨gb254, 0, none⟩ = some (.int .i64 0) := (blk_cell BK254.out 0).trans rfl
                have hcz54_1 : w28.cell? ⟨gb254, 1, none⟩ = some (.int .i64 0) := (blk_cell BK254.out 1).trans rfl
                have hfz54_0 := blk_frozen BK254.out 0
                have hfz54_1 := blk_frozen BK254.out 1
                go_wp2
                go_meet
                case rel => exact ⟨_, ((!(t247 == t251) || (!(t248 == t252)))), (by first | rfl | (simp; done) | (simp [*]; done)), H', ⟨by first | omega | exact Nat.le_refl _⟩, ⟨by (with_reducible repeat (first | refine blk_drewN ?_ _ | refine blk_drew ?_ | refine blk_alloc ?_ _)); refine blk_far ?_ NB242_254.out _; (with_reducible repeat (first | refine blk_drewN ?_ _ | refine blk_drew ?_ | refine blk_alloc ?_ _)); refine blk_far ?_ NB242_254.out _; (with_reducible repeat (first | refine blk_drewN ?_ _ | refine blk_drew ?_ | refine blk_alloc ?_ _)); exact BK242.out⟩, ⟨by (with_reducible repeat (first | refine blk_drewN ?_ _ | refine blk_drew ?_ | refine blk_alloc ?_ _)); refine blk_far ?_ NB246_254.out _; (with_reducible repeat (first | refine blk_drewN ?_ _ | refine blk_drew ?_ | refine blk_alloc ?_ _)); refine blk_far ?_ NB246_254.out _; (with_reducible repeat (first | refine blk_drewN ?_ _ | refine blk_drew ?_ | refine blk_alloc ?_ _)); exact BK246.out⟩, ⟨by (with_reducible repeat (first | refine blk_drewN ?_ _ | refine blk_drew ?_ | refine blk_alloc ?_ _)); refine blk_far ?_ NB250_254.out _; (with_reducible repeat (first | refine blk_drewN ?_ _ | refine blk_drew ?_ | refine blk_alloc ?_ _)); refine blk_far ?_ NB250_254.out _; (with_reducible repeat (first | refine blk_drewN ?_ _ | refine blk_drew ?_ | refine blk_alloc ?_ _)); exact BK250.out⟩, ⟨by (with_reducible repeat (first | refine blk_drewN ?_ _ | refine blk_drew ?_ | refine blk_alloc ?_ _)); refine blk_put (cs := #[.int .i64 t251, .int .i64 0]) ?_ 1 _ rfl; (with_reducible repeat (first | refine blk_drewN ?_ _ | refine blk_drew ?_ | refine blk_alloc ?_ _)); refine blk_put (cs := #[.int .i64 0, .int .i64 0]) ?_ 0 _ rfl; (with_reducible repeat (first | refine blk_drewN ?_ _ | refine blk_drew ?_ | refine blk_alloc ?_ _)); exact BK254.out⟩, ⟨by repeat (first | (with_reducible first | exact HB.out | apply below_alloc | apply pw_below_drewN | apply below_drew1 | refine below_set ?_ GE242.out | refine below_set ?_ GE246.out | refine below_set ?_ GE250.out | refine below_set ?_ GE254.out) | exact HB.out)⟩⟩
              · rw [if_neg c44] at H
                have c44b0 : (t249 == t253) = false := beq_eq_false_iff_ne.mpr c44
                have c44b1 : (t249 != t253) = true := bne_iff_ne.mpr c44
                have H' := Aside0.mk H
                clear H
                have hnb55 := NB242_246.out
                have hnc55 := NB246_242.out
                have hnb56 := NB242_250.out
                have hnc56 := NB250_242.out
                have hnb57 := NB242_254.out
                have hnc57 := NB254_242.out
                have hcz58_0 : w28.cell? ⟨gb242, 0, none⟩ = some (.int .i64 t239) := (blk_cell BK242.out 0).trans rfl
                have hcz58_1 : w28.cell? ⟨gb242, 1, none⟩ = some (.int .i64 t240) := (blk_cell BK242.out 1).trans rfl
                have hfz58_0 := blk_frozen BK242.out 0
                have hfz58_1 := blk_frozen BK242.out 1
                have hnb59 := NB246_250.out
                have hnc59 := NB250_246.out
                have hnb60 := NB246_254.out
                have hnc60 := NB254_246.out
                have hcz61_0 : w28.cell? ⟨gb246, 0, none⟩ = some (.int .i64 t243) := (blk_cell BK246.out 0).trans rfl
                have hcz61_1 : w28.cell? ⟨gb246, 1, none⟩ = some (.int .i64 t244) := (blk_cell BK246.out 1).trans rfl
                have hfz61_0 := blk_frozen BK246.out 0
                have hfz61_1 := blk_frozen BK246.out 1
                go_wp2
                go_meet
                case rel => exact ⟨_, (true), (by first | rfl | (simp; done) | (simp [*]; done)), H', ⟨by first | omega | exact Nat.le_refl _⟩, ⟨by (with_reducible repeat (first | refine blk_drewN ?_ _ | refine blk_drew ?_ | refine blk_alloc ?_ _)); refine blk_far ?_ NB242_254.out _; (with_reducible repeat (first | refine blk_drewN ?_ _ | refine blk_drew ?_ | refine blk_alloc ?_ _)); refine blk_far ?_ NB242_254.out _; (with_reducible repeat (first | refine blk_drewN ?_ _ | refine blk_drew ?_ | refine blk_alloc ?_ _)); exact BK242.out⟩, ⟨by (with_reducible repeat (first | refine blk_drewN ?_ _ | refine blk_drew ?_ | refine blk_alloc ?_ _)); refine blk_far ?_ NB246_254.out _; (with_reducible repeat (first | refine blk_drewN ?_ _ | refine blk_drew ?_ | refine blk_alloc ?_ _)); refine blk_far ?_ NB246_254.out _; (with_reducible repeat (first | refine blk_drewN ?_ _ | refine blk_drew ?_ | refine blk_alloc ?_ _)); exact BK246.out⟩, ⟨by (with_reducible repeat (first | refine blk_drewN ?_ _ | refine blk_drew ?_ | refine blk_alloc ?_ _)); refine blk_far ?_ NB250_254.out _; (with_reducible repeat (first | refine blk_drewN ?_ _ | refine blk_drew ?_ | refine blk_alloc ?_ _)); refine blk_far ?_ NB250_254.out _; (with_reducible repeat (first | refine blk_drewN ?_ _ | refine blk_drew ?_ | refine blk_alloc ?_ _)); exact BK250.out⟩, ⟨by (with_reducible repeat (first | refine blk_drewN ?_ _ | refine blk_drew ?_ | refine blk_alloc ?_ _)); refine blk_put (cs := #[.int .i64 t251, .int .i64 0]) ?_ 1 _ rfl; (with_reducible repeat (first | refine blk_drewN ?_ _ | refine blk_drew ?_ | refine blk_alloc ?_ _)); refine blk_put (cs := #[.int .i64 0, .int .i64 0]) ?_ 0 _ rfl; (with_reducible repeat (first | refine blk_drewN ?_ _ | refine blk_drew ?_ | refine blk_alloc ?_ _)); exact BK254.out⟩, ⟨by repeat (first | (with_reducible first | exact HB.out | apply below_alloc | apply pw_below_drewN | apply below_drew1 | refine below_set ?_ GE242.out | refine below_set ?_ GE246.out | refine below_set ?_ GE250.out | refine below_set ?_ GE254.out) | exact HB.out)⟩⟩
          · rw [if_neg c35] at H
            have c35b0 : (t241 == t245) = false := beq_eq_false_iff_ne.mpr c35
            have c35b1 : (t241 != t245) = true := bne_iff_ne.mpr c35
            have H' := Aside0.mk H
            clear H
            go_wp2
            go_meet
            case rel => exact ⟨_, (true), (by first | rfl | (simp; done) | (simp [*]; done)), H', ⟨by first | omega | exact Nat.le_refl _⟩, ⟨by (with_reducible repeat (first | refine blk_drewN ?_ _ | refine blk_drew ?_ | refine blk_alloc ?_ _)); refine blk_far ?_ NB242_254.out _; (with_reducible repeat (first | refine blk_drewN ?_ _ | refine blk_drew ?_ | refine blk_alloc ?_ _)); refine blk_far ?_ NB242_254.out _; (with_reducible repeat (first | refine blk_drewN ?_ _ | refine blk_drew ?_ | refine blk_alloc ?_ _)); exact BK242.out⟩, ⟨by (with_reducible repeat (first | refine blk_drewN ?_ _ | refine blk_drew ?_ | refine blk_alloc ?_ _)); refine blk_far ?_ NB246_254.out _; (with_reducible repeat (first | refine blk_drewN ?_ _ | refine blk_drew ?_ | refine blk_alloc ?_ _)); refine blk_far ?_ NB246_254.out _; (with_reducible repeat (first | refine blk_drewN ?_ _ | refine blk_drew ?_ | refine blk_alloc ?_ _)); exact BK246.out⟩, ⟨by (with_reducible repeat (first | refine blk_drewN ?_ _ | refine blk_drew ?_ | refine blk_alloc ?_ _)); refine blk_far ?_ NB250_254.out _; (with_reducible repeat (first | refine blk_drewN ?_ _ | refine blk_drew ?_ | refine blk_alloc ?_ _)); refine blk_far ?_ NB250_254.out _; (with_reducible repeat (first | refine blk_drewN ?_ _ | refine blk_drew ?_ | refine blk_alloc ?_ _)); exact BK250.out⟩, ⟨by (with_reducible repeat (first | refine blk_drewN ?_ _ | refine blk_drew ?_ | refine blk_alloc ?_ _)); refine blk_put (cs := #[.int .i64 t251, .int .i64 0]) ?_ 1 _ rfl; (with_reducible repeat (first | refine blk_drewN ?_ _ | refine blk_drew ?_ | refine blk_alloc ?_ _)); refine blk_put (cs := #[.int .i64 0, .int .i64 0]) ?_ 0 _ rfl; (with_reducible repeat (first | refine blk_drewN ?_ _ | refine blk_drew ?_ | refine blk_alloc ?_ _)); exact BK254.out⟩, ⟨by repeat (first | (with_reducible first | exact HB.out | apply below_alloc | apply pw_below_drewN | apply below_drew1 | refine below_set ?_ GE242.out | refine below_set ?_ GE246.out | refine below_set ?_ GE250.out | refine below_set ?_ GE254.out) | exact HB.out)⟩⟩
        · rw [if_neg c34] at H
          have c34b0 : (t234 == t236) = false := beq_eq_false_iff_ne.mpr c34
          have c34b1 : (t234 != t236) = true := bne_iff_ne.mpr c34
          have H' := Aside0.mk H
          clear H
          go_wp2
          go_meet
          case rel => exact ⟨_, (true), (by first | rfl | (simp; done) | (simp [*]; done)), H', ⟨by first | omega | exact Nat.le_refl _⟩, ⟨by (with_reducible repeat (first | refine blk_drewN ?_ _ | refine blk_drew ?_ | refine blk_alloc ?_ _)); refine blk_far ?_ NB242_254.out _; (with_reducible repeat (first | refine blk_drewN ?_ _ | refine blk_drew ?_ | refine blk_alloc ?_ _)); refine blk_far ?_ NB242_254.out _; (with_reducible repeat (first | refine blk_drewN ?_ _ | refine blk_drew ?_ | refine blk_alloc ?_ _)); exact BK242.out⟩, ⟨by (with_reducible repeat (first | refine blk_drewN ?_ _ | refine blk_drew ?_ | refine blk_alloc ?_ _)); refine blk_far ?_ NB246_254.out _; (with_reducible repeat (first | refine blk_drewN ?_ _ | refine blk_drew ?_ | refine blk_alloc ?_ _)); refine blk_far ?_ NB246_254.out _; (with_reducible repeat (first | refine blk_drewN ?_ _ | refine blk_drew ?_ | refine blk_alloc ?_ _)); exact BK246.out⟩, ⟨by (with_reducible repeat (first | refine blk_drewN ?_ _ | refine blk_drew ?_ | refine blk_alloc ?_ _)); refine blk_far ?_ NB250_254.out _; (with_reducible repeat (first | refine blk_drewN ?_ _ | refine blk_drew ?_ | refine blk_alloc ?_ _)); refine blk_far ?_ NB250_254.out _; (with_reducible repeat (first | refine blk_drewN ?_ _ | refine blk_drew ?_ | refine blk_alloc ?_ _)); exact BK250.out⟩, ⟨by (with_reducible repeat (first | refine blk_drewN ?_ _ | refine blk_drew ?_ | refine blk_alloc ?_ _)); refine blk_put (cs := #[.int .i64 t251, .int .i64 0]) ?_ 1 _ rfl; (with_reducible repeat (first | refine blk_drewN ?_ _ | refine blk_drew ?_ | refine blk_alloc ?_ _)); refine blk_put (cs := #[.int .i64 0, .int .i64 0]) ?_ 0 _ rfl; (with_reducible repeat (first | refine blk_drewN ?_ _ | refine blk_drew ?_ | refine blk_alloc ?_ _)); exact BK254.out⟩, ⟨by repeat (first | (with_reducible first | exact HB.out | apply below_alloc | apply pw_below_drewN | apply below_drew1 | refine below_set ?_ GE242.out | refine below_set ?_ GE246.out | refine below_set ?_ GE250.out | refine below_set ?_ GE254.out) | exact HB.out)⟩⟩
      · rw [if_neg c33] at H
        have c33b0 : (t235 == t237) = false := beq_eq_false_iff_ne.mpr c33
        have c33b1 : (t235 != t237) = true := bne_iff_ne.mpr c33
        (first | rw [c33b0] | (simp only [i64_w, i32_w]; rw [c33b0]) | skip)
        have H' := Aside0.mk H
        clear H
        go_wp2
        go_meet
        case rel => exact ⟨_, (true), (by first | rfl | (simp; done) | (simp [*]; done)), H', ⟨by first | omega | exact Nat.le_refl _⟩, ⟨by (with_reducible repeat (first | refine blk_drewN ?_ _ | refine blk_drew ?_ | refine blk_alloc ?_ _)); refine blk_far ?_ NB242_254.out _; (with_reducible repeat (first | refine blk_drewN ?_ _ | refine blk_drew ?_ | refine blk_alloc ?_ _)); refine blk_far ?_ NB242_254.out _; (with_reducible repeat (first | refine blk_drewN ?_ _ | refine blk_drew ?_ | refine blk_alloc ?_ _)); exact BK242.out⟩, ⟨by (with_reducible repeat (first | refine blk_drewN ?_ _ | refine blk_drew ?_ | refine blk_alloc ?_ _)); refine blk_far ?_ NB246_254.out _; (with_reducible repeat (first | refine blk_drewN ?_ _ | refine blk_drew ?_ | refine blk_alloc ?_ _)); refine blk_far ?_ NB246_254.out _; (with_reducible repeat (first | refine blk_drewN ?_ _ | refine blk_drew ?_ | refine blk_alloc ?_ _)); exact BK246.out⟩, ⟨by (with_reducible repeat (first | refine blk_drewN ?_ _ | refine blk_drew ?_ | refine blk_alloc ?_ _)); refine blk_far ?_ NB250_254.out _; (with_reducible repeat (first | refine blk_drewN ?_ _ | refine blk_drew ?_ | refine blk_alloc ?_ _)); refine blk_far ?_ NB250_254.out _; (with_reducible repeat (first | refine blk_drewN ?_ _ | refine blk_drew ?_ | refine blk_alloc ?_ _)); exact BK250.out⟩, ⟨by (with_reducible repeat (first | refine blk_drewN ?_ _ | refine blk_drew ?_ | refine blk_alloc ?_ _)); refine blk_put (cs := #[.int .i64 t251, .int .i64 0]) ?_ 1 _ rfl; (with_reducible repeat (first | refine blk_drewN ?_ _ | refine blk_drew ?_ | refine blk_alloc ?_ _)); refine blk_put (cs := #[.int .i64 0, .int .i64 0]) ?_ 0 _ rfl; (with_reducible repeat (first | refine blk_drewN ?_ _ | refine blk_drew ?_ | refine blk_alloc ?_ _)); exact BK254.out⟩, ⟨by repeat (first | (with_reducible first | exact HB.out | apply below_alloc | apply pw_below_drewN | apply below_drew1 | refine below_set ?_ GE242.out | refine below_set ?_ GE246.out | refine below_set ?_ GE250.out | refine below_set ?_ GE254.out) | exact HB.out)⟩⟩
    case rest =>
      clear HC12
      try clear c2
      try clear p2
      try clear c3
      try clear c4
      try clear c5
      try clear c6
      try clear c9
      try clear c20
      try clear c24
      try clear c25
      try clear c29
      try clear c30
      try clear c31
      try clear c32
      try clear c33
      try clear c33b0
      try clear c33b1
      try clear c34
      try clear c34b0
      try clear c34b1
      try clear c35
      try clear c35b0
      try clear c35b1
      try clear c36
      try clear c36b0
      try clear c37
      try clear c38
      try clear c39
      try clear c41
      try clear c42
      try clear c44
      try clear c44b0
      try clear c44b1
      try clear c45
      try clear c46
      try clear c47
      try clear c49
      try clear c50
      try clear c52
      try clear c55
      try clear c56
      try clear c57
      try clear c59
      try clear c60
      try clear hcz17_0
      try clear hcz17_1
      try clear hcz21_0
      try clear hcz21_1
      try clear hcz26_0
      try clear hcz26_1
      try clear hcz32_0
      try clear hcz32_1
      try clear hcz40_0
      try clear hcz40_1
      try clear hcz43_0
      try clear hcz43_1
      try clear hcz48_0
      try clear hcz48_1
      try clear hcz51_0
      try clear hcz51_1
      try clear hcz53_0
      try clear hcz53_1
      try clear hcz54_0
      try clear hcz54_1
      try clear hcz58_0
      try clear hcz58_1
      try clear hcz61_0
      try clear hcz61_1
      try clear hfz17_0
      try clear hfz17_1
      try clear hfz21_0
      try clear hfz21_1
      try clear hfz26_0
      try clear hfz26_1
      try clear hfz32_0
      try clear hfz32_1
      try clear hfz40_0
      try clear hfz40_1
      try clear hfz43_0
      try clear hfz43_1
      try clear hfz48_0
      try clear hfz48_1
      try clear hfz51_0
      try clear hfz51_1
      try clear hfz53_0
      try clear hfz53_1
      try clear hfz54_0
      try clear hfz54_1
      try clear hfz58_0
      try clear hfz58_1
      try clear hfz61_0
      try clear hfz61_1
      obtain ⟨kq, x87_11, rfl, HA, HJ11, BK242, BK246, BK250, BK254, HB⟩ := hcut
      cases kq with
      | zero => exact absurd HA.out (by simp [laws_FnSines.j0])
      | succ kj11 =>
        have H := HA.out
        clear HA
        simp only [laws_FnSines.j0] at H
        by_cases c62 : x87_11 = true
        · subst c62
          have H1 : (some false) = some r := by rw [if_pos rfl] at H; exact H
          clear H
          have H := H1
          clear H1
          obtain rfl := Option.some.inj H
          go_wp2
          go_ret
          exact ⟨by first | rfl | (simp [errW_none, errW_some] <;> rfl) | (simp [*, errW_none, errW_some] <;> rfl), by repeat (first | (with_reducible first | exact HB.out | apply below_alloc | apply pw_below_drewN | apply below_drew1 | refine below_set ?_ GE242.out | refine below_set ?_ GE246.out | refine below_set ?_ GE250.out | refine below_set ?_ GE254.out) | exact HB.out)⟩
        · replace c62 := Bool.eq_false_iff.mpr c62
          subst c62
          have H1 : (if t241 = 0 then (if t249 = 0 then (if (wrap64 (t240 - t239)) > 2 then (laws_FnSines.j1 kj11 t233 t234 t235 true) else (laws_FnSines.j1 kj11 t233 t234 t235 (decide ((wrap64 (t248 - t247)) > 2)))) else (laws_FnSines.j1 kj11 t233 t234 t235 false)) else (laws_FnSines.j1 kj11 t233 t234 t235 false)) = some r := by rw [if_neg (show ¬ (false = true) by decide)] at H; exact H
          clear H
          have H := H1
          clear H1
          have HC63 := Aside0.mk H
          clear H
          go_upto_region 13 with (fail)
          go_cut [109] (fun v109 wc => ∃ (kq : Nat) (x109_62 : Bool), v109 = .bool x109_62 ∧ Aside0 (laws_FnSines.j1 kq t233 t234 t235 x109_62 = some r) ∧ Aside0 (kq ≤ kj11) ∧ Aside0 (wc.heap[gb242]? = some (.cells #[.int .i64 t239, .int .i64 t240] 33 (0, 0))) ∧ Aside0 (wc.heap[gb246]? = some (.cells #[.int .i64 t243, .int .i64 t244] 33 (0, 0))) ∧ Aside0 (wc.heap[gb250]? = some (.cells #[.int .i64 t247, .int .i64 t248] 33 (0, 0))) ∧ Aside0 (wc.heap[gb254]? = some (.cells #[.int .i64 t251, .int .i64 t252] 33 (0, 0))) ∧ Aside0 (Below w.heap.size w wc))
          case first =>
            have H := HC63.out
            clear HC63
            by_cases c64 : t241 = 0
            · rw [if_pos c64] at H
              have c64b0 : (t241 == 0) = true := beq_iff_eq.mpr c64
              have c64b1 : (t241 != 0) = false := bne_eq_false_iff_eq.mpr c64
              clear c64
              (first | rw [c64b0] | (simp only [i64_w, i32_w]; rw [c64b0]) | skip)
              by_cases c65 : t249 = 0
              · rw [if_pos c65] at H
                have c65b0 : (t249 == 0) = true := beq_iff_eq.mpr c65
                have c65b1 : (t249 != 0) = false := bne_eq_false_iff_eq.mpr c65
                clear c65
                by_cases c66 : (wrap64 (t240 - t239)) > 2
                · rw [if_pos c66] at H
                  have c66b0 : decide (2 < (wrap64 (t240 - t239))) = true := decide_eq_true c66
                  clear c66
                  have H' := Aside0.mk H
                  clear H
                  have hnb67 := NB242_246.out
                  have hnc67 := NB246_242.out
                  have hnb68 := NB242_250.out
                  have hnc68 := NB250_242.out
                  have hnb69 := NB242_254.out
                  have hnc69 := NB254_242.out
                  have hcz70_0 : wc.cell? ⟨gb242, 0, none⟩ = some (.int .i64 t239) := (blk_cell BK242.out 0).trans rfl
                  have hcz70_1 : wc.cell? ⟨gb242, 1, none⟩ = some (.int .i64 t240) := (blk_cell BK242.out 1).trans rfl
                  have hfz70_0 := blk_frozen BK242.out 0
                  have hfz70_1 := blk_frozen BK242.out 1
                  go_wp2
                  go_meet
                  case rel => exact ⟨_, (true), (by first | rfl | (simp; done) | (simp [*]; done)), H', ⟨by have := HJ11.out; first | omega | exact Nat.le_refl _⟩, ⟨by (with_reducible repeat (first | refine blk_drewN ?_ _ | refine blk_drew ?_ | refine blk_alloc ?_ _)); exact BK242.out⟩, ⟨by (with_reducible repeat (first | refine blk_drewN ?_ _ | refine blk_drew ?_ | refine blk_alloc ?_ _)); exact BK246.out⟩, ⟨by (with_reducible repeat (first | refine blk_drewN ?_ _ | refine blk_drew ?_ | refine blk_alloc ?_ _)); exact BK250.out⟩, ⟨by (with_reducible repeat (first | refine blk_drewN ?_ _ | refine blk_drew ?_ | refine blk_alloc ?_ _)); exact BK254.out⟩, ⟨by repeat (first | (with_reducible first | exact HB.out | apply below_alloc | apply pw_below_drewN | apply below_drew1 | refine below_set ?_ GE242.out | refine below_set ?_ GE246.out | refine below_set ?_ GE250.out | refine below_set ?_ GE254.out) | exact HB.out)⟩⟩
                · rw [if_neg c66] at H
                  have c66b0 : decide (2 < (wrap64 (t240 - t239))) = false := decide_eq_false c66
                  clear c66
                  have H' := Aside0.mk H
                  clear H
                  have hnb71 := NB242_246.out
                  have hnc71 := NB246_242.out
                  have hnb72 := NB242_250.out
                  have hnc72 := NB250_242.out
                  have hnb73 := NB242_254.out
                  have hnc73 := NB254_242.out
                  have hcz74_0 : wc.cell? ⟨gb242, 0, none⟩ = some (.int .i64 t239) := (blk_cell BK242.out 0).trans rfl
                  have hcz74_1 : wc.cell? ⟨gb242, 1, none⟩ = some (.int .i64 t240) := (blk_cell BK242.out 1).trans rfl
                  have hfz74_0 := blk_frozen BK242.out 0
                  have hfz74_1 := blk_frozen BK242.out 1
                  have hnb75 := NB250_246.out
                  have hnc75 := NB246_250.out
                  have hnb76 := NB250_254.out
                  have hnc76 := NB254_250.out
                  have hcz77_0 : wc.cell? ⟨gb250, 0, none⟩ = some (.int .i64 t247) := (blk_cell BK250.out 0).trans rfl
                  have hcz77_1 : wc.cell? ⟨gb250, 1, none⟩ = some (.int .i64 t248) := (blk_cell BK250.out 1).trans rfl
                  have hfz77_0 := blk_frozen BK250.out 0
                  have hfz77_1 := blk_frozen BK250.out 1
                  go_wp2
                  go_meet
                  case rel => exact ⟨_, (decide ((wrap64 (t248 - t247)) > 2)), (by first | rfl | (simp; done) | (simp [*]; done)), H', ⟨by have := HJ11.out; first | omega | exact Nat.le_refl _⟩, ⟨by (with_reducible repeat (first | refine blk_drewN ?_ _ | refine blk_drew ?_ | refine blk_alloc ?_ _)); exact BK242.out⟩, ⟨by (with_reducible repeat (first | refine blk_drewN ?_ _ | refine blk_drew ?_ | refine blk_alloc ?_ _)); exact BK246.out⟩, ⟨by (with_reducible repeat (first | refine blk_drewN ?_ _ | refine blk_drew ?_ | refine blk_alloc ?_ _)); exact BK250.out⟩, ⟨by (with_reducible repeat (first | refine blk_drewN ?_ _ | refine blk_drew ?_ | refine blk_alloc ?_ _)); exact BK254.out⟩, ⟨by repeat (first | (with_reducible first | exact HB.out | apply below_alloc | apply pw_below_drewN | apply below_drew1 | refine below_set ?_ GE242.out | refine below_set ?_ GE246.out | refine below_set ?_ GE250.out | refine below_set ?_ GE254.out) | exact HB.out)⟩⟩
              · rw [if_neg c65] at H
                have c65b0 : (t249 == 0) = false := beq_eq_false_iff_ne.mpr c65
                have c65b1 : (t249 != 0) = true := bne_iff_ne.mpr c65
                have H' := Aside0.mk H
                clear H
                go_wp2
                go_meet
                case rel => exact ⟨_, (false), (by first | rfl | (simp; done) | (simp [*]; done)), H', ⟨by have := HJ11.out; first | omega | exact Nat.le_refl _⟩, ⟨by (with_reducible repeat (first | refine blk_drewN ?_ _ | refine blk_drew ?_ | refine blk_alloc ?_ _)); exact BK242.out⟩, ⟨by (with_reducible repeat (first | refine blk_drewN ?_ _ | refine blk_drew ?_ | refine blk_alloc ?_ _)); exact BK246.out⟩, ⟨by (with_reducible repeat (first | refine blk_drewN ?_ _ | refine blk_drew ?_ | refine blk_alloc ?_ _)); exact BK250.out⟩, ⟨by (with_reducible repeat (first | refine blk_drewN ?_ _ | refine blk_drew ?_ | refine blk_alloc ?_ _)); exact BK254.out⟩, ⟨by repeat (first | (with_reducible first | exact HB.out | apply below_alloc | apply pw_below_drewN | apply below_drew1 | refine below_set ?_ GE242.out | refine below_set ?_ GE246.out | refine below_set ?_ GE250.out | refine below_set ?_ GE254.out) | exact HB.out)⟩⟩
            · rw [if_neg c64] at H
              have c64b0 : (t241 == 0) = false := beq_eq_false_iff_ne.mpr c64
              have c64b1 : (t241 != 0) = true := bne_iff_ne.mpr c64
              (first | rw [c64b0] | (simp only [i64_w, i32_w]; rw [c64b0]) | skip)
              have H' := Aside0.mk H
              clear H
              go_wp2
              go_meet
              case rel => exact ⟨_, (false), (by first | rfl | (simp; done) | (simp [*]; done)), H', ⟨by have := HJ11.out; first | omega | exact Nat.le_refl _⟩, ⟨by (with_reducible repeat (first | refine blk_drewN ?_ _ | refine blk_drew ?_ | refine blk_alloc ?_ _)); exact BK242.out⟩, ⟨by (with_reducible repeat (first | refine blk_drewN ?_ _ | refine blk_drew ?_ | refine blk_alloc ?_ _)); exact BK246.out⟩, ⟨by (with_reducible repeat (first | refine blk_drewN ?_ _ | refine blk_drew ?_ | refine blk_alloc ?_ _)); exact BK250.out⟩, ⟨by (with_reducible repeat (first | refine blk_drewN ?_ _ | refine blk_drew ?_ | refine blk_alloc ?_ _)); exact BK254.out⟩, ⟨by repeat (first | (with_reducible first | exact HB.out | apply below_alloc | apply pw_below_drewN | apply below_drew1 | refine below_set ?_ GE242.out | refine below_set ?_ GE246.out | refine below_set ?_ GE250.out | refine below_set ?_ GE254.out) | exact HB.out)⟩⟩
          case rest =>
            clear HC63
            try clear c2
            try clear p2
            try clear c3
            try clear c4
            try clear c5
            try clear c6
            try clear p6
            try clear c7
            try clear c9
            try clear c20
            try clear c24
            try clear c25
            try clear c29
            try clear c30
            try clear c31
            try clear c32
            try clear c33
            try clear c33b0
            try clear c33b1
            try clear c34
            try clear c34b0
            try clear c34b1
            try clear c35
            try clear c35b0
            try clear c35b1
            try clear c36
            try clear c36b0
            try clear c37
            try clear c38
            try clear c39
            try clear c41
            try clear c42
            try clear c44
            try clear c44b0
            try clear c44b1
            try clear c45
            try clear c46
            try clear c47
            try clear c49
            try clear c50
            try clear c52
            try clear c55
            try clear c56
            try clear c57
            try clear c59
            try clear c60
            try clear c62
            try clear c64
            try clear c64b0
            try clear c64b1
            try clear p64
            try clear c65
            try clear c65b0
            try clear c65b1
            try clear c66
            try clear c66b0
            try clear c67
            try clear c68
            try clear c69
            try clear c71
            try clear c72
            try clear c73
            try clear c75
            try clear c76
            try clear hcz17_0
            try clear hcz17_1
            try clear hcz21_0
            try clear hcz21_1
            try clear hcz26_0
            try clear hcz26_1
            try clear hcz32_0
            try clear hcz32_1
            try clear hcz40_0
            try clear hcz40_1
            try clear hcz43_0
            try clear hcz43_1
            try clear hcz48_0
            try clear hcz48_1
            try clear hcz51_0
            try clear hcz51_1
            try clear hcz53_0
            try clear hcz53_1
            try clear hcz54_0
            try clear hcz54_1
            try clear hcz58_0
            try clear hcz58_1
            try clear hcz61_0
            try clear hcz61_1
            try clear hcz70_0
            try clear hcz70_1
            try clear hcz74_0
            try clear hcz74_1
            try clear hcz77_0
            try clear hcz77_1
            try clear hfz17_0
            try clear hfz17_1
            try clear hfz21_0
            try clear hfz21_1
            try clear hfz26_0
            try clear hfz26_1
            try clear hfz32_0
            try clear hfz32_1
            try clear hfz40_0
            try clear hfz40_1
            try clear hfz43_0
            try clear hfz43_1
            try clear hfz48_0
            try clear hfz48_1
            try clear hfz51_0
            try clear hfz51_1
            try clear hfz53_0
            try clear hfz53_1
            try clear hfz54_0
            try clear hfz54_1
            try clear hfz58_0
            try clear hfz58_1
            try clear hfz61_0
            try clear hfz61_1
            try clear hfz70_0
            try clear hfz70_1
            try clear hfz74_0
            try clear hfz74_1
            try clear hfz77_0
            try clear hfz77_1
            try clear p2
            obtain ⟨kq, x109_62, rfl, HA, HJ62, BK242, BK246, BK250, BK254, HB⟩ := hcut
            cases kq with
            | zero => exact absurd HA.out (by simp [laws_FnSines.j1])
            | succ kj62 =>
              have H := HA.out
              clear HA
              simp only [laws_FnSines.j1] at H
              by_cases c78 : x109_62 = true
              · subst c78
                have H1 : (some false) = some r := by rw [if_pos rfl] at H; exact H
                clear H
                have H := H1
                clear H1
                obtain rfl := Option.some.inj H
                go_wp2
                go_ret
                exact ⟨by first | rfl | (simp [errW_none, errW_some] <;> rfl) | (simp [*, errW_none, errW_some] <;> rfl), by repeat (first | (with_reducible first | exact HB.out | apply below_alloc | apply pw_below_drewN | apply below_drew1 | refine below_set ?_ GE242.out | refine below_set ?_ GE246.out | refine below_set ?_ GE250.out | refine below_set ?_ GE254.out) | exact HB.out)⟩
              · replace c78 := Bool.eq_false_iff.mpr c78
                subst c78
                have H1 : (if t235 = 0 then ((impl_NanoSine.f kj62 (wrap64 (t233 + 324000))).bind fun bt255 => ((impl_NanoSine.f kj62 (wrap64 (-t233))).bind fun bt257 => ((impl_NanoSine.f kj62 (wrap64 (648000 - t233))).bind fun bt259 => (if bt255.2 = 0 then (if bt257.2 = 0 then (if bt259.2 = 0 then (if bt257.1 = (wrap64 (-t234)) then (if bt259.1 = t234 then (if (wrap64 ((wrap64 ((wrap64 (t234 * t234)) + (wrap64 (bt255.1 * bt255.1)))) - 1000000000000000000)) ≤ 400000000000 then (some (decide ((wrap64 ((wrap64 ((wrap64 (t234 * t234)) + (wrap64 (bt255.1 * bt255.1)))) - 1000000000000000000)) ≥ (-400000000000)))) else (some false)) else (some false)) else (some false)) else (if bt255.2 = 2 then (some true) else (if bt257.2 = 2 then (some true) else (some (bt259.2 == 2))))) else (if bt255.2 = 2 then (some true) else (if bt257.2 = 2 then (some true) else (some (bt259.2 == 2))))) else (if bt255.2 = 2 then (some true) else (if bt257.2 = 2 then (some true) else (some (bt259.2 == 2)))))))) else (some true)) = some r := by rw [if_neg (show ¬ (false = true) by decide)] at H; exact H
                clear H
                have H := H1
                clear H1
                by_cases c79 : t235 = 0
                · rw [if_pos c79] at H
                  have c79b0 : (t235 == 0) = true := beq_iff_eq.mpr c79
                  have c79b1 : (t235 != 0) = false := bne_eq_false_iff_eq.mpr c79
                  clear c79
                  replace H := Option.bind_eq_some_iff.mp H
                  obtain ⟨⟨t255, t256⟩, A800, H⟩ := H
                  replace H : ((impl_NanoSine.f kj62 (wrap64 (-t233))).bind fun bt257 => ((impl_NanoSine.f kj62 (wrap64 (648000 - t233))).bind fun bt259 => (if t256 = 0 then (if bt257.2 = 0 then (if bt259.2 = 0 then (if bt257.1 = (wrap64 (-t234)) then (if bt259.1 = t234 then (if (wrap64 ((wrap64 ((wrap64 (t234 * t234)) + (wrap64 (t255 * t255)))) - 1000000000000000000)) ≤ 400000000000 then (some (decide ((wrap64 ((wrap64 ((wrap64 (t234 * t234)) + (wrap64 (t255 * t255)))) - 1000000000000000000)) ≥ (-400000000000)))) else (some false)) else (some false)) else (some false)) else (if t256 = 2 then (some true) else (if bt257.2 = 2 then (some true) else (some (bt259.2 == 2))))) else (if t256 = 2 then (some true) else (if bt257.2 = 2 then (some true) else (some (bt259.2 == 2))))) else (if t256 = 2 then (some true) else (if bt257.2 = 2 then (some true) else (some (bt259.2 == 2))))))) = some r := H
                  have A80 := Aside0.mk A800
                  clear A800
                  replace H := Option.bind_eq_some_iff.mp H
                  obtain ⟨⟨t257, t258⟩, A810, H⟩ := H
                  replace H : ((impl_NanoSine.f kj62 (wrap64 (648000 - t233))).bind fun bt259 => (if t256 = 0 then (if t258 = 0 then (if bt259.2 = 0 then (if t257 = (wrap64 (-t234)) then (if bt259.1 = t234 then (if (wrap64 ((wrap64 ((wrap64 (t234 * t234)) + (wrap64 (t255 * t255)))) - 1000000000000000000)) ≤ 400000000000 then (some (decide ((wrap64 ((wrap64 ((wrap64 (t234 * t234)) + (wrap64 (t255 * t255)))) - 1000000000000000000)) ≥ (-400000000000)))) else (some false)) else (some false)) else (some false)) else (if t256 = 2 then (some true) else (if t258 = 2 then (some true) else (some (bt259.2 == 2))))) else (if t256 = 2 then (some true) else (if t258 = 2 then (some true) else (some (bt259.2 == 2))))) else (if t256 = 2 then (some true) else (if t258 = 2 then (some true) else (some (bt259.2 == 2)))))) = some r := H
                  have A81 := Aside0.mk A810
                  clear A810
                  replace H := Option.bind_eq_some_iff.mp H
                  obtain ⟨⟨t259, t260⟩, A820, H⟩ := H
                  replace H : (if t256 = 0 then (if t258 = 0 then (if t260 = 0 then (if t257 = (wrap64 (-t234)) then (if t259 = t234 then (if (wrap64 ((wrap64 ((wrap64 (t234 * t234)) + (wrap64 (t255 * t255)))) - 1000000000000000000)) ≤ 400000000000 then (some (decide ((wrap64 ((wrap64 ((wrap64 (t234 * t234)) + (wrap64 (t255 * t255)))) - 1000000000000000000)) ≥ (-400000000000)))) else (some false)) else (some false)) else (some false)) else (if t256 = 2 then (some true) else (if t258 = 2 then (some true) else (some (t260 == 2))))) else (if t256 = 2 then (some true) else (if t258 = 2 then (some true) else (some (t260 == 2))))) else (if t256 = 2 then (some true) else (if t258 = 2 then (some true) else (some (t260 == 2))))) = some r := H
                  have A82 := Aside0.mk A820
                  clear A820
                  by_cases c83 : t256 = 0
                  · rw [if_pos c83] at H
                    have c83b0 : (t256 == 0) = true := beq_iff_eq.mpr c83
                    have c83b1 : (t256 != 0) = false := bne_eq_false_iff_eq.mpr c83
                    clear c83
                    by_cases c84 : t258 = 0
                    · rw [if_pos c84] at H
                      have c84b0 : (t258 == 0) = true := beq_iff_eq.mpr c84
                      have c84b1 : (t258 != 0) = false := bne_eq_false_iff_eq.mpr c84
                      clear c84
                      by_cases c85 : t260 = 0
                      · rw [if_pos c85] at H
                        have c85b0 : (t260 == 0) = true := beq_iff_eq.mpr c85
                        have c85b1 : (t260 != 0) = false := bne_eq_false_iff_eq.mpr c85
                        clear c85
                        by_cases c86 : t257 = (wrap64 (-t234))
                        · rw [if_pos c86] at H
                          have c86b0 : (t257 == (wrap64 (-t234))) = true := beq_iff_eq.mpr c86
                          have c86b1 : (t257 != (wrap64 (-t234))) = false := bne_eq_false_iff_eq.mpr c86
                          clear c86
                          by_cases c87 : t259 = t234
                          · rw [if_pos c87] at H
                            have c87b0 : (t259 == t234) = true := beq_iff_eq.mpr c87
                            have c87b1 : (t259 != t234) = false := bne_eq_false_iff_eq.mpr c87
                            clear c87
                            by_cases c88 : (wrap64 ((wrap64 ((wrap64 (t234 * t234)) + (wrap64 (t255 * t255)))) - 1000000000000000000)) ≤ 400000000000
                            · rw [if_pos c88] at H
                              have c88b0 : decide ((wrap64 ((wrap64 ((wrap64 (t234 * t234)) + (wrap64 (t255 * t255)))) - 1000000000000000000)) ≤ 400000000000) = true := decide_eq_true c88
                              clear c88
                              obtain rfl := Option.some.inj H
                              go_wp2_with (first | ((with_reducible refine gate_callee (f := 33) rfl ?_); refine goesL_ (some 115) rfl rfl Try.func33 (by kernel_rfl) rfl #[.int .i64 (wrap64 (t233 + 324000))] rfl (by (try simp only [List.map_toArray, List.map_cons, List.map_nil]); first | done | rfl | (simp only [List.length_drop, List.length_take]; rfl)) ?_; (with_reducible refine (impl_NanoSine.calls kj62 (wrap64 (t233 + 324000)) t255 t256 _ A80.out).mono ?_); rintro e w' ⟨rfl, ⟨nd, rfl⟩⟩; refine ⟨_, rfl, ?_⟩) | ((with_reducible refine gate_callee (f := 33) rfl ?_); refine goesL_ (some 121) rfl rfl Try.func33 (by kernel_rfl) rfl #[.int .i64 (wrap64 (-t233))] rfl (by (try simp only [List.map_toArray, List.map_cons, List.map_nil]); first | done | rfl | (simp only [List.length_drop, List.length_take]; rfl)) ?_; (with_reducible refine (impl_NanoSine.calls kj62 (wrap64 (-t233)) t257 t258 _ A81.out).mono ?_); rintro e w' ⟨rfl, ⟨nd, rfl⟩⟩; refine ⟨_, rfl, ?_⟩) | ((with_reducible refine gate_callee (f := 33) rfl ?_); refine goesL_ (some 127) rfl rfl Try.func33 (by kernel_rfl) rfl #[.int .i64 (wrap64 (648000 - t233))] rfl (by (try simp only [List.map_toArray, List.map_cons, List.map_nil]); first | done | rfl | (simp only [List.length_drop, List.length_take]; rfl)) ?_; (with_reducible refine (impl_NanoSine.calls kj62 (wrap64 (648000 - t233)) t259 t260 _ A82.out).mono ?_); rintro e w' ⟨rfl, ⟨nd, rfl⟩⟩; refine ⟨_, rfl, ?_⟩))
                              go_ret
                              exact ⟨by first | rfl | (simp [errW_none, errW_some] <;> rfl) | (simp [*, errW_none, errW_some] <;> rfl), by repeat (first | (with_reducible first | exact HB.out | apply below_alloc | apply pw_below_drewN | apply below_drew1 | refine below_set ?_ GE242.out | refine below_set ?_ GE246.out | refine below_set ?_ GE250.out | refine below_set ?_ GE254.out) | exact HB.out)⟩
                            · rw [if_neg c88] at H
                              have c88b0 : decide ((wrap64 ((wrap64 ((wrap64 (t234 * t234)) + (wrap64 (t255 * t255)))) - 1000000000000000000)) ≤ 400000000000) = false := decide_eq_false c88
                              clear c88
                              obtain rfl := Option.some.inj H
                              go_wp2_with (first | ((with_reducible refine gate_callee (f := 33) rfl ?_); refine goesL_ (some 115) rfl rfl Try.func33 (by kernel_rfl) rfl #[.int .i64 (wrap64 (t233 + 324000))] rfl (by (try simp only [List.map_toArray, List.map_cons, List.map_nil]); first | done | rfl | (simp only [List.length_drop, List.length_take]; rfl)) ?_; (with_reducible refine (impl_NanoSine.calls kj62 (wrap64 (t233 + 324000)) t255 t256 _ A80.out).mono ?_); rintro e w' ⟨rfl, ⟨nd, rfl⟩⟩; refine ⟨_, rfl, ?_⟩) | ((with_reducible refine gate_callee (f := 33) rfl ?_); refine goesL_ (some 121) rfl rfl Try.func33 (by kernel_rfl) rfl #[.int .i64 (wrap64 (-t233))] rfl (by (try simp only [List.map_toArray, List.map_cons, List.map_nil]); first | done | rfl | (simp only [List.length_drop, List.length_take]; rfl)) ?_; (with_reducible refine (impl_NanoSine.calls kj62 (wrap64 (-t233)) t257 t258 _ A81.out).mono ?_); rintro e w' ⟨rfl, ⟨nd, rfl⟩⟩; refine ⟨_, rfl, ?_⟩) | ((with_reducible refine gate_callee (f := 33) rfl ?_); refine goesL_ (some 127) rfl rfl Try.func33 (by kernel_rfl) rfl #[.int .i64 (wrap64 (648000 - t233))] rfl (by (try simp only [List.map_toArray, List.map_cons, List.map_nil]); first | done | rfl | (simp only [List.length_drop, List.length_take]; rfl)) ?_; (with_reducible refine (impl_NanoSine.calls kj62 (wrap64 (648000 - t233)) t259 t260 _ A82.out).mono ?_); rintro e w' ⟨rfl, ⟨nd, rfl⟩⟩; refine ⟨_, rfl, ?_⟩))
                              go_ret
                              exact ⟨by first | rfl | (simp [errW_none, errW_some] <;> rfl) | (simp [*, errW_none, errW_some] <;> rfl), by repeat (first | (with_reducible first | exact HB.out | apply below_alloc | apply pw_below_drewN | apply below_drew1 | refine below_set ?_ GE242.out | refine below_set ?_ GE246.out | refine below_set ?_ GE250.out | refine below_set ?_ GE254.out) | exact HB.out)⟩
                          · rw [if_neg c87] at H
                            have c87b0 : (t259 == t234) = false := beq_eq_false_iff_ne.mpr c87
                            have c87b1 : (t259 != t234) = true := bne_iff_ne.mpr c87
                            obtain rfl := Option.some.inj H
                            go_wp2_with (first | ((with_reducible refine gate_callee (f := 33) rfl ?_); refine goesL_ (some 115) rfl rfl Try.func33 (by kernel_rfl) rfl #[.int .i64 (wrap64 (t233 + 324000))] rfl (by (try simp only [List.map_toArray, List.map_cons, List.map_nil]); first | done | rfl | (simp only [List.length_drop, List.length_take]; rfl)) ?_; (with_reducible refine (impl_NanoSine.calls kj62 (wrap64 (t233 + 324000)) t255 t256 _ A80.out).mono ?_); rintro e w' ⟨rfl, ⟨nd, rfl⟩⟩; refine ⟨_, rfl, ?_⟩) | ((with_reducible refine gate_callee (f := 33) rfl ?_); refine goesL_ (some 121) rfl rfl Try.func33 (by kernel_rfl) rfl #[.int .i64 (wrap64 (-t233))] rfl (by (try simp only [List.map_toArray, List.map_cons, List.map_nil]); first | done | rfl | (simp only [List.length_drop, List.length_take]; rfl)) ?_; (with_reducible refine (impl_NanoSine.calls kj62 (wrap64 (-t233)) t257 t258 _ A81.out).mono ?_); rintro e w' ⟨rfl, ⟨nd, rfl⟩⟩; refine ⟨_, rfl, ?_⟩) | ((with_reducible refine gate_callee (f := 33) rfl ?_); refine goesL_ (some 127) rfl rfl Try.func33 (by kernel_rfl) rfl #[.int .i64 (wrap64 (648000 - t233))] rfl (by (try simp only [List.map_toArray, List.map_cons, List.map_nil]); first | done | rfl | (simp only [List.length_drop, List.length_take]; rfl)) ?_; (with_reducible refine (impl_NanoSine.calls kj62 (wrap64 (648000 - t233)) t259 t260 _ A82.out).mono ?_); rintro e w' ⟨rfl, ⟨nd, rfl⟩⟩; refine ⟨_, rfl, ?_⟩))
                            go_ret
                            exact ⟨by first | rfl | (simp [errW_none, errW_some] <;> rfl) | (simp [*, errW_none, errW_some] <;> rfl), by repeat (first | (with_reducible first | exact HB.out | apply below_alloc | apply pw_below_drewN | apply below_drew1 | refine below_set ?_ GE242.out | refine below_set ?_ GE246.out | refine below_set ?_ GE250.out | refine below_set ?_ GE254.out) | exact HB.out)⟩
                        · rw [if_neg c86] at H
                          have c86b0 : (t257 == (wrap64 (-t234))) = false := beq_eq_false_iff_ne.mpr c86
                          have c86b1 : (t257 != (wrap64 (-t234))) = true := bne_iff_ne.mpr c86
                          obtain rfl := Option.some.inj H
                          go_wp2_with (first | ((with_reducible refine gate_callee (f := 33) rfl ?_); refine goesL_ (some 115) rfl rfl Try.func33 (by kernel_rfl) rfl #[.int .i64 (wrap64 (t233 + 324000))] rfl (by (try simp only [List.map_toArray, List.map_cons, List.map_nil]); first | done | rfl | (simp only [List.length_drop, List.length_take]; rfl)) ?_; (with_reducible refine (impl_NanoSine.calls kj62 (wrap64 (t233 + 324000)) t255 t256 _ A80.out).mono ?_); rintro e w' ⟨rfl, ⟨nd, rfl⟩⟩; refine ⟨_, rfl, ?_⟩) | ((with_reducible refine gate_callee (f := 33) rfl ?_); refine goesL_ (some 121) rfl rfl Try.func33 (by kernel_rfl) rfl #[.int .i64 (wrap64 (-t233))] rfl (by (try simp only [List.map_toArray, List.map_cons, List.map_nil]); first | done | rfl | (simp only [List.length_drop, List.length_take]; rfl)) ?_; (with_reducible refine (impl_NanoSine.calls kj62 (wrap64 (-t233)) t257 t258 _ A81.out).mono ?_); rintro e w' ⟨rfl, ⟨nd, rfl⟩⟩; refine ⟨_, rfl, ?_⟩) | ((with_reducible refine gate_callee (f := 33) rfl ?_); refine goesL_ (some 127) rfl rfl Try.func33 (by kernel_rfl) rfl #[.int .i64 (wrap64 (648000 - t233))] rfl (by (try simp only [List.map_toArray, List.map_cons, List.map_nil]); first | done | rfl | (simp only [List.length_drop, List.length_take]; rfl)) ?_; (with_reducible refine (impl_NanoSine.calls kj62 (wrap64 (648000 - t233)) t259 t260 _ A82.out).mono ?_); rintro e w' ⟨rfl, ⟨nd, rfl⟩⟩; refine ⟨_, rfl, ?_⟩))
                          go_ret
                          exact ⟨by first | rfl | (simp [errW_none, errW_some] <;> rfl) | (simp [*, errW_none, errW_some] <;> rfl), by repeat (first | (with_reducible first | exact HB.out | apply below_alloc | apply pw_below_drewN | apply below_drew1 | refine below_set ?_ GE242.out | refine below_set ?_ GE246.out | refine below_set ?_ GE250.out | refine below_set ?_ GE254.out) | exact HB.out)⟩
                      · rw [if_neg c85] at H
                        have c85b0 : (t260 == 0) = false := beq_eq_false_iff_ne.mpr c85
                        have c85b1 : (t260 != 0) = true := bne_iff_ne.mpr c85
                        by_cases c89 : t256 = 2
                        · rw [if_pos c89] at H
                          have c89b0 : (t256 == 2) = true := beq_iff_eq.mpr c89
                          have c89b1 : (t256 != 2) = false := bne_eq_false_iff_eq.mpr c89
                          clear c89
                          obtain rfl := Option.some.inj H
                          go_wp2_with (first | ((with_reducible refine gate_callee (f := 33) rfl ?_); refine goesL_ (some 115) rfl rfl Try.func33 (by kernel_rfl) rfl #[.int .i64 (wrap64 (t233 + 324000))] rfl (by (try simp only [List.map_toArray, List.map_cons, List.map_nil]); first | done | rfl | (simp only [List.length_drop, List.length_take]; rfl)) ?_; (with_reducible refine (impl_NanoSine.calls kj62 (wrap64 (t233 + 324000)) t255 t256 _ A80.out).mono ?_); rintro e w' ⟨rfl, ⟨nd, rfl⟩⟩; refine ⟨_, rfl, ?_⟩) | ((with_reducible refine gate_callee (f := 33) rfl ?_); refine goesL_ (some 121) rfl rfl Try.func33 (by kernel_rfl) rfl #[.int .i64 (wrap64 (-t233))] rfl (by (try simp only [List.map_toArray, List.map_cons, List.map_nil]); first | done | rfl | (simp only [List.length_drop, List.length_take]; rfl)) ?_; (with_reducible refine (impl_NanoSine.calls kj62 (wrap64 (-t233)) t257 t258 _ A81.out).mono ?_); rintro e w' ⟨rfl, ⟨nd, rfl⟩⟩; refine ⟨_, rfl, ?_⟩) | ((with_reducible refine gate_callee (f := 33) rfl ?_); refine goesL_ (some 127) rfl rfl Try.func33 (by kernel_rfl) rfl #[.int .i64 (wrap64 (648000 - t233))] rfl (by (try simp only [List.map_toArray, List.map_cons, List.map_nil]); first | done | rfl | (simp only [List.length_drop, List.length_take]; rfl)) ?_; (with_reducible refine (impl_NanoSine.calls kj62 (wrap64 (648000 - t233)) t259 t260 _ A82.out).mono ?_); rintro e w' ⟨rfl, ⟨nd, rfl⟩⟩; refine ⟨_, rfl, ?_⟩))
                          go_ret
                          exact ⟨by first | rfl | (simp [errW_none, errW_some] <;> rfl) | (simp [*, errW_none, errW_some] <;> rfl), by repeat (first | (with_reducible first | exact HB.out | apply below_alloc | apply pw_below_drewN | apply below_drew1 | refine below_set ?_ GE242.out | refine below_set ?_ GE246.out | refine below_set ?_ GE250.out | refine below_set ?_ GE254.out) | exact HB.out)⟩
                        · rw [if_neg c89] at H
                          have c89b0 : (t256 == 2) = false := beq_eq_false_iff_ne.mpr c89
                          have c89b1 : (t256 != 2) = true := bne_iff_ne.mpr c89
                          by_cases c90 : t258 = 2
                          · rw [if_pos c90] at H
                            have c90b0 : (t258 == 2) = true := beq_iff_eq.mpr c90
                            have c90b1 : (t258 != 2) = false := bne_eq_false_iff_eq.mpr c90
                            clear c90
                            obtain rfl := Option.some.inj H
                            go_wp2_with (first | ((with_reducible refine gate_callee (f := 33) rfl ?_); refine goesL_ (some 115) rfl rfl Try.func33 (by kernel_rfl) rfl #[.int .i64 (wrap64 (t233 + 324000))] rfl (by (try simp only [List.map_toArray, List.map_cons, List.map_nil]); first | done | rfl | (simp only [List.length_drop, List.length_take]; rfl)) ?_; (with_reducible refine (impl_NanoSine.calls kj62 (wrap64 (t233 + 324000)) t255 t256 _ A80.out).mono ?_); rintro e w' ⟨rfl, ⟨nd, rfl⟩⟩; refine ⟨_, rfl, ?_⟩) | ((with_reducible refine gate_callee (f := 33) rfl ?_); refine goesL_ (some 121) rfl rfl Try.func33 (by kernel_rfl) rfl #[.int .i64 (wrap64 (-t233))] rfl (by (try simp only [List.map_toArray, List.map_cons, List.map_nil]); first | done | rfl | (simp only [List.length_drop, List.length_take]; rfl)) ?_; (with_reducible refine (impl_NanoSine.calls kj62 (wrap64 (-t233)) t257 t258 _ A81.out).mono ?_); rintro e w' ⟨rfl, ⟨nd, rfl⟩⟩; refine ⟨_, rfl, ?_⟩) | ((with_reducible refine gate_callee (f := 33) rfl ?_); refine goesL_ (some 127) rfl rfl Try.func33 (by kernel_rfl) rfl #[.int .i64 (wrap64 (648000 - t233))] rfl (by (try simp only [List.map_toArray, List.map_cons, List.map_nil]); first | done | rfl | (simp only [List.length_drop, List.length_take]; rfl)) ?_; (with_reducible refine (impl_NanoSine.calls kj62 (wrap64 (648000 - t233)) t259 t260 _ A82.out).mono ?_); rintro e w' ⟨rfl, ⟨nd, rfl⟩⟩; refine ⟨_, rfl, ?_⟩))
                            go_ret
                            exact ⟨by first | rfl | (simp [errW_none, errW_some] <;> rfl) | (simp [*, errW_none, errW_some] <;> rfl), by repeat (first | (with_reducible first | exact HB.out | apply below_alloc | apply pw_below_drewN | apply below_drew1 | refine below_set ?_ GE242.out | refine below_set ?_ GE246.out | refine below_set ?_ GE250.out | refine below_set ?_ GE254.out) | exact HB.out)⟩
                          · rw [if_neg c90] at H
                            have c90b0 : (t258 == 2) = false := beq_eq_false_iff_ne.mpr c90
                            have c90b1 : (t258 != 2) = true := bne_iff_ne.mpr c90
                            obtain rfl := Option.some.inj H
                            go_wp2_with (first | ((with_reducible refine gate_callee (f := 33) rfl ?_); refine goesL_ (some 115) rfl rfl Try.func33 (by kernel_rfl) rfl #[.int .i64 (wrap64 (t233 + 324000))] rfl (by (try simp only [List.map_toArray, List.map_cons, List.map_nil]); first | done | rfl | (simp only [List.length_drop, List.length_take]; rfl)) ?_; (with_reducible refine (impl_NanoSine.calls kj62 (wrap64 (t233 + 324000)) t255 t256 _ A80.out).mono ?_); rintro e w' ⟨rfl, ⟨nd, rfl⟩⟩; refine ⟨_, rfl, ?_⟩) | ((with_reducible refine gate_callee (f := 33) rfl ?_); refine goesL_ (some 121) rfl rfl Try.func33 (by kernel_rfl) rfl #[.int .i64 (wrap64 (-t233))] rfl (by (try simp only [List.map_toArray, List.map_cons, List.map_nil]); first | done | rfl | (simp only [List.length_drop, List.length_take]; rfl)) ?_; (with_reducible refine (impl_NanoSine.calls kj62 (wrap64 (-t233)) t257 t258 _ A81.out).mono ?_); rintro e w' ⟨rfl, ⟨nd, rfl⟩⟩; refine ⟨_, rfl, ?_⟩) | ((with_reducible refine gate_callee (f := 33) rfl ?_); refine goesL_ (some 127) rfl rfl Try.func33 (by kernel_rfl) rfl #[.int .i64 (wrap64 (648000 - t233))] rfl (by (try simp only [List.map_toArray, List.map_cons, List.map_nil]); first | done | rfl | (simp only [List.length_drop, List.length_take]; rfl)) ?_; (with_reducible refine (impl_NanoSine.calls kj62 (wrap64 (648000 - t233)) t259 t260 _ A82.out).mono ?_); rintro e w' ⟨rfl, ⟨nd, rfl⟩⟩; refine ⟨_, rfl, ?_⟩))
                            go_ret
                            exact ⟨by first | rfl | (simp [errW_none, errW_some] <;> rfl) | (simp [*, errW_none, errW_some] <;> rfl), by repeat (first | (with_reducible first | exact HB.out | apply below_alloc | apply pw_below_drewN | apply below_drew1 | refine below_set ?_ GE242.out | refine below_set ?_ GE246.out | refine below_set ?_ GE250.out | refine below_set ?_ GE254.out) | exact HB.out)⟩
                    · rw [if_neg c84] at H
                      have c84b0 : (t258 == 0) = false := beq_eq_false_iff_ne.mpr c84
                      have c84b1 : (t258 != 0) = true := bne_iff_ne.mpr c84
                      by_cases c91 : t256 = 2
                      · rw [if_pos c91] at H
                        have c91b0 : (t256 == 2) = true := beq_iff_eq.mpr c91
                        have c91b1 : (t256 != 2) = false := bne_eq_false_iff_eq.mpr c91
                        clear c91
                        obtain rfl := Option.some.inj H
                        go_wp2_with (first | ((with_reducible refine gate_callee (f := 33) rfl ?_); refine goesL_ (some 115) rfl rfl Try.func33 (by kernel_rfl) rfl #[.int .i64 (wrap64 (t233 + 324000))] rfl (by (try simp only [List.map_toArray, List.map_cons, List.map_nil]); first | done | rfl | (simp only [List.length_drop, List.length_take]; rfl)) ?_; (with_reducible refine (impl_NanoSine.calls kj62 (wrap64 (t233 + 324000)) t255 t256 _ A80.out).mono ?_); rintro e w' ⟨rfl, ⟨nd, rfl⟩⟩; refine ⟨_, rfl, ?_⟩) | ((with_reducible refine gate_callee (f := 33) rfl ?_); refine goesL_ (some 121) rfl rfl Try.func33 (by kernel_rfl) rfl #[.int .i64 (wrap64 (-t233))] rfl (by (try simp only [List.map_toArray, List.map_cons, List.map_nil]); first | done | rfl | (simp only [List.length_drop, List.length_take]; rfl)) ?_; (with_reducible refine (impl_NanoSine.calls kj62 (wrap64 (-t233)) t257 t258 _ A81.out).mono ?_); rintro e w' ⟨rfl, ⟨nd, rfl⟩⟩; refine ⟨_, rfl, ?_⟩) | ((with_reducible refine gate_callee (f := 33) rfl ?_); refine goesL_ (some 127) rfl rfl Try.func33 (by kernel_rfl) rfl #[.int .i64 (wrap64 (648000 - t233))] rfl (by (try simp only [List.map_toArray, List.map_cons, List.map_nil]); first | done | rfl | (simp only [List.length_drop, List.length_take]; rfl)) ?_; (with_reducible refine (impl_NanoSine.calls kj62 (wrap64 (648000 - t233)) t259 t260 _ A82.out).mono ?_); rintro e w' ⟨rfl, ⟨nd, rfl⟩⟩; refine ⟨_, rfl, ?_⟩))
                        go_ret
                        exact ⟨by first | rfl | (simp [errW_none, errW_some] <;> rfl) | (simp [*, errW_none, errW_some] <;> rfl), by repeat (first | (with_reducible first | exact HB.out | apply below_alloc | apply pw_below_drewN | apply below_drew1 | refine below_set ?_ GE242.out | refine below_set ?_ GE246.out | refine below_set ?_ GE250.out | refine below_set ?_ GE254.out) | exact HB.out)⟩
                      · rw [if_neg c91] at H
                        have c91b0 : (t256 == 2) = false := beq_eq_false_iff_ne.mpr c91
                        have c91b1 : (t256 != 2) = true := bne_iff_ne.mpr c91
                        by_cases c92 : t258 = 2
                        · rw [if_pos c92] at H
                          have c92b0 : (t258 == 2) = true := beq_iff_eq.mpr c92
                          have c92b1 : (t258 != 2) = false := bne_eq_false_iff_eq.mpr c92
                          clear c92
                          obtain rfl := Option.some.inj H
                          go_wp2_with (first | ((with_reducible refine gate_callee (f := 33) rfl ?_); refine goesL_ (some 115) rfl rfl Try.func33 (by kernel_rfl) rfl #[.int .i64 (wrap64 (t233 + 324000))] rfl (by (try simp only [List.map_toArray, List.map_cons, List.map_nil]); first | done | rfl | (simp only [List.length_drop, List.length_take]; rfl)) ?_; (with_reducible refine (impl_NanoSine.calls kj62 (wrap64 (t233 + 324000)) t255 t256 _ A80.out).mono ?_); rintro e w' ⟨rfl, ⟨nd, rfl⟩⟩; refine ⟨_, rfl, ?_⟩) | ((with_reducible refine gate_callee (f := 33) rfl ?_); refine goesL_ (some 121) rfl rfl Try.func33 (by kernel_rfl) rfl #[.int .i64 (wrap64 (-t233))] rfl (by (try simp only [List.map_toArray, List.map_cons, List.map_nil]); first | done | rfl | (simp only [List.length_drop, List.length_take]; rfl)) ?_; (with_reducible refine (impl_NanoSine.calls kj62 (wrap64 (-t233)) t257 t258 _ A81.out).mono ?_); rintro e w' ⟨rfl, ⟨nd, rfl⟩⟩; refine ⟨_, rfl, ?_⟩) | ((with_reducible refine gate_callee (f := 33) rfl ?_); refine goesL_ (some 127) rfl rfl Try.func33 (by kernel_rfl) rfl #[.int .i64 (wrap64 (648000 - t233))] rfl (by (try simp only [List.map_toArray, List.map_cons, List.map_nil]); first | done | rfl | (simp only [List.length_drop, List.length_take]; rfl)) ?_; (with_reducible refine (impl_NanoSine.calls kj62 (wrap64 (648000 - t233)) t259 t260 _ A82.out).mono ?_); rintro e w' ⟨rfl, ⟨nd, rfl⟩⟩; refine ⟨_, rfl, ?_⟩))
                          go_ret
                          exact ⟨by first | rfl | (simp [errW_none, errW_some] <;> rfl) | (simp [*, errW_none, errW_some] <;> rfl), by repeat (first | (with_reducible first | exact HB.out | apply below_alloc | apply pw_below_drewN | apply below_drew1 | refine below_set ?_ GE242.out | refine below_set ?_ GE246.out | refine below_set ?_ GE250.out | refine below_set ?_ GE254.out) | exact HB.out)⟩
                        · rw [if_neg c92] at H
                          have c92b0 : (t258 == 2) = false := beq_eq_false_iff_ne.mpr c92
                          have c92b1 : (t258 != 2) = true := bne_iff_ne.mpr c92
                          obtain rfl := Option.some.inj H
                          go_wp2_with (first | ((with_reducible refine gate_callee (f := 33) rfl ?_); refine goesL_ (some 115) rfl rfl Try.func33 (by kernel_rfl) rfl #[.int .i64 (wrap64 (t233 + 324000))] rfl (by (try simp only [List.map_toArray, List.map_cons, List.map_nil]); first | done | rfl | (simp only [List.length_drop, List.length_take]; rfl)) ?_; (with_reducible refine (impl_NanoSine.calls kj62 (wrap64 (t233 + 324000)) t255 t256 _ A80.out).mono ?_); rintro e w' ⟨rfl, ⟨nd, rfl⟩⟩; refine ⟨_, rfl, ?_⟩) | ((with_reducible refine gate_callee (f := 33) rfl ?_); refine goesL_ (some 121) rfl rfl Try.func33 (by kernel_rfl) rfl #[.int .i64 (wrap64 (-t233))] rfl (by (try simp only [List.map_toArray, List.map_cons, List.map_nil]); first | done | rfl | (simp only [List.length_drop, List.length_take]; rfl)) ?_; (with_reducible refine (impl_NanoSine.calls kj62 (wrap64 (-t233)) t257 t258 _ A81.out).mono ?_); rintro e w' ⟨rfl, ⟨nd, rfl⟩⟩; refine ⟨_, rfl, ?_⟩) | ((with_reducible refine gate_callee (f := 33) rfl ?_); refine goesL_ (some 127) rfl rfl Try.func33 (by kernel_rfl) rfl #[.int .i64 (wrap64 (648000 - t233))] rfl (by (try simp only [List.map_toArray, List.map_cons, List.map_nil]); first | done | rfl | (simp only [List.length_drop, List.length_take]; rfl)) ?_; (with_reducible refine (impl_NanoSine.calls kj62 (wrap64 (648000 - t233)) t259 t260 _ A82.out).mono ?_); rintro e w' ⟨rfl, ⟨nd, rfl⟩⟩; refine ⟨_, rfl, ?_⟩))
                          go_ret
                          exact ⟨by first | rfl | (simp [errW_none, errW_some] <;> rfl) | (simp [*, errW_none, errW_some] <;> rfl), by repeat (first | (with_reducible first | exact HB.out | apply below_alloc | apply pw_below_drewN | apply below_drew1 | refine below_set ?_ GE242.out | refine below_set ?_ GE246.out | refine below_set ?_ GE250.out | refine below_set ?_ GE254.out) | exact HB.out)⟩
                  · rw [if_neg c83] at H
                    have c83b0 : (t256 == 0) = false := beq_eq_false_iff_ne.mpr c83
                    have c83b1 : (t256 != 0) = true := bne_iff_ne.mpr c83
                    by_cases c93 : t256 = 2
                    · rw [if_pos c93] at H
                      have c93b0 : (t256 == 2) = true := beq_iff_eq.mpr c93
                      have c93b1 : (t256 != 2) = false := bne_eq_false_iff_eq.mpr c93
                      clear c93
                      obtain rfl := Option.some.inj H
                      go_wp2_with (first | ((with_reducible refine gate_callee (f := 33) rfl ?_); refine goesL_ (some 115) rfl rfl Try.func33 (by kernel_rfl) rfl #[.int .i64 (wrap64 (t233 + 324000))] rfl (by (try simp only [List.map_toArray, List.map_cons, List.map_nil]); first | done | rfl | (simp only [List.length_drop, List.length_take]; rfl)) ?_; (with_reducible refine (impl_NanoSine.calls kj62 (wrap64 (t233 + 324000)) t255 t256 _ A80.out).mono ?_); rintro e w' ⟨rfl, ⟨nd, rfl⟩⟩; refine ⟨_, rfl, ?_⟩) | ((with_reducible refine gate_callee (f := 33) rfl ?_); refine goesL_ (some 121) rfl rfl Try.func33 (by kernel_rfl) rfl #[.int .i64 (wrap64 (-t233))] rfl (by (try simp only [List.map_toArray, List.map_cons, List.map_nil]); first | done | rfl | (simp only [List.length_drop, List.length_take]; rfl)) ?_; (with_reducible refine (impl_NanoSine.calls kj62 (wrap64 (-t233)) t257 t258 _ A81.out).mono ?_); rintro e w' ⟨rfl, ⟨nd, rfl⟩⟩; refine ⟨_, rfl, ?_⟩) | ((with_reducible refine gate_callee (f := 33) rfl ?_); refine goesL_ (some 127) rfl rfl Try.func33 (by kernel_rfl) rfl #[.int .i64 (wrap64 (648000 - t233))] rfl (by (try simp only [List.map_toArray, List.map_cons, List.map_nil]); first | done | rfl | (simp only [List.length_drop, List.length_take]; rfl)) ?_; (with_reducible refine (impl_NanoSine.calls kj62 (wrap64 (648000 - t233)) t259 t260 _ A82.out).mono ?_); rintro e w' ⟨rfl, ⟨nd, rfl⟩⟩; refine ⟨_, rfl, ?_⟩))
                      go_ret
                      exact ⟨by first | rfl | (simp [errW_none, errW_some] <;> rfl) | (simp [*, errW_none, errW_some] <;> rfl), by repeat (first | (with_reducible first | exact HB.out | apply below_alloc | apply pw_below_drewN | apply below_drew1 | refine below_set ?_ GE242.out | refine below_set ?_ GE246.out | refine below_set ?_ GE250.out | refine below_set ?_ GE254.out) | exact HB.out)⟩
                    · rw [if_neg c93] at H
                      have c93b0 : (t256 == 2) = false := beq_eq_false_iff_ne.mpr c93
                      have c93b1 : (t256 != 2) = true := bne_iff_ne.mpr c93
                      by_cases c94 : t258 = 2
                      · rw [if_pos c94] at H
                        have c94b0 : (t258 == 2) = true := beq_iff_eq.mpr c94
                        have c94b1 : (t258 != 2) = false := bne_eq_false_iff_eq.mpr c94
                        clear c94
                        obtain rfl := Option.some.inj H
                        go_wp2_with (first | ((with_reducible refine gate_callee (f := 33) rfl ?_); refine goesL_ (some 115) rfl rfl Try.func33 (by kernel_rfl) rfl #[.int .i64 (wrap64 (t233 + 324000))] rfl (by (try simp only [List.map_toArray, List.map_cons, List.map_nil]); first | done | rfl | (simp only [List.length_drop, List.length_take]; rfl)) ?_; (with_reducible refine (impl_NanoSine.calls kj62 (wrap64 (t233 + 324000)) t255 t256 _ A80.out).mono ?_); rintro e w' ⟨rfl, ⟨nd, rfl⟩⟩; refine ⟨_, rfl, ?_⟩) | ((with_reducible refine gate_callee (f := 33) rfl ?_); refine goesL_ (some 121) rfl rfl Try.func33 (by kernel_rfl) rfl #[.int .i64 (wrap64 (-t233))] rfl (by (try simp only [List.map_toArray, List.map_cons, List.map_nil]); first | done | rfl | (simp only [List.length_drop, List.length_take]; rfl)) ?_; (with_reducible refine (impl_NanoSine.calls kj62 (wrap64 (-t233)) t257 t258 _ A81.out).mono ?_); rintro e w' ⟨rfl, ⟨nd, rfl⟩⟩; refine ⟨_, rfl, ?_⟩) | ((with_reducible refine gate_callee (f := 33) rfl ?_); refine goesL_ (some 127) rfl rfl Try.func33 (by kernel_rfl) rfl #[.int .i64 (wrap64 (648000 - t233))] rfl (by (try simp only [List.map_toArray, List.map_cons, List.map_nil]); first | done | rfl | (simp only [List.length_drop, List.length_take]; rfl)) ?_; (with_reducible refine (impl_NanoSine.calls kj62 (wrap64 (648000 - t233)) t259 t260 _ A82.out).mono ?_); rintro e w' ⟨rfl, ⟨nd, rfl⟩⟩; refine ⟨_, rfl, ?_⟩))
                        go_ret
                        exact ⟨by first | rfl | (simp [errW_none, errW_some] <;> rfl) | (simp [*, errW_none, errW_some] <;> rfl), by repeat (first | (with_reducible first | exact HB.out | apply below_alloc | apply pw_below_drewN | apply below_drew1 | refine below_set ?_ GE242.out | refine below_set ?_ GE246.out | refine below_set ?_ GE250.out | refine below_set ?_ GE254.out) | exact HB.out)⟩
                      · rw [if_neg c94] at H
                        have c94b0 : (t258 == 2) = false := beq_eq_false_iff_ne.mpr c94
                        have c94b1 : (t258 != 2) = true := bne_iff_ne.mpr c94
                        obtain rfl := Option.some.inj H
                        go_wp2_with (first | ((with_reducible refine gate_callee (f := 33) rfl ?_); refine goesL_ (some 115) rfl rfl Try.func33 (by kernel_rfl) rfl #[.int .i64 (wrap64 (t233 + 324000))] rfl (by (try simp only [List.map_toArray, List.map_cons, List.map_nil]); first | done | rfl | (simp only [List.length_drop, List.length_take]; rfl)) ?_; (with_reducible refine (impl_NanoSine.calls kj62 (wrap64 (t233 + 324000)) t255 t256 _ A80.out).mono ?_); rintro e w' ⟨rfl, ⟨nd, rfl⟩⟩; refine ⟨_, rfl, ?_⟩) | ((with_reducible refine gate_callee (f := 33) rfl ?_); refine goesL_ (some 121) rfl rfl Try.func33 (by kernel_rfl) rfl #[.int .i64 (wrap64 (-t233))] rfl (by (try simp only [List.map_toArray, List.map_cons, List.map_nil]); first | done | rfl | (simp only [List.length_drop, List.length_take]; rfl)) ?_; (with_reducible refine (impl_NanoSine.calls kj62 (wrap64 (-t233)) t257 t258 _ A81.out).mono ?_); rintro e w' ⟨rfl, ⟨nd, rfl⟩⟩; refine ⟨_, rfl, ?_⟩) | ((with_reducible refine gate_callee (f := 33) rfl ?_); refine goesL_ (some 127) rfl rfl Try.func33 (by kernel_rfl) rfl #[.int .i64 (wrap64 (648000 - t233))] rfl (by (try simp only [List.map_toArray, List.map_cons, List.map_nil]); first | done | rfl | (simp only [List.length_drop, List.length_take]; rfl)) ?_; (with_reducible refine (impl_NanoSine.calls kj62 (wrap64 (648000 - t233)) t259 t260 _ A82.out).mono ?_); rintro e w' ⟨rfl, ⟨nd, rfl⟩⟩; refine ⟨_, rfl, ?_⟩))
                        go_ret
                        exact ⟨by first | rfl | (simp [errW_none, errW_some] <;> rfl) | (simp [*, errW_none, errW_some] <;> rfl), by repeat (first | (with_reducible first | exact HB.out | apply below_alloc | apply pw_below_drewN | apply below_drew1 | refine below_set ?_ GE242.out | refine below_set ?_ GE246.out | refine below_set ?_ GE250.out | refine below_set ?_ GE254.out) | exact HB.out)⟩
                · rw [if_neg c79] at H
                  have c79b0 : (t235 == 0) = false := beq_eq_false_iff_ne.mpr c79
                  have c79b1 : (t235 != 0) = true := bne_iff_ne.mpr c79
                  obtain rfl := Option.some.inj H
                  go_wp2
                  go_ret
                  exact ⟨by first | rfl | (simp [errW_none, errW_some] <;> rfl) | (simp [*, errW_none, errW_some] <;> rfl), by repeat (first | (with_reducible first | exact HB.out | apply below_alloc | apply pw_below_drewN | apply below_drew1 | refine below_set ?_ GE242.out | refine below_set ?_ GE246.out | refine below_set ?_ GE250.out | refine below_set ?_ GE254.out) | exact HB.out)⟩

/-- THE ONE PURE STATEMENT of laws_FnSines: yours. -/
def laws_FnSines.Pure : Prop := ∀ (l0 : List Int), l0.length ≤ maxLen → l0.length * 1 ≤ 140737488351232 → (∀ x ∈ l0, (Lit.int .u8 x).wf = true) → ∃ k, laws_FnSines.f k l0 = some true
theorem laws_FnSines.walk (P : laws_FnSines.Pure) (a0 : Option Addr) (len0 cap0 : Nat) (z0 : List Int) (w : World) (w0 : (a0 = none ∧ len0 = 0 ∧ cap0 = 0 ∧ z0 = []) ∨ ∃ x, a0 = some x ∧ len0 ≤ cap0 ∧ cap0 ≤ maxLen ∧ z0.length = cap0 ∧ (∀ i, i < z0.length → w.cell? (x.add i) = some (.int .u8 (z0.getD i 0))) ∧ ∀ n ∈ z0, (Lit.int .u8 n).wf = true) (y0 : len0 * 1 ≤ 140737488351232) :
    Calls Try.prog 6 #[.slice a0 len0 cap0] w fun e w' => e = .returned (.bool true) ∧ Below w.heap.size w w' := by
  obtain ⟨l0, rfl, hr0, hm0, hw0, hc0⟩ := ReadsInt.ofRowC w0
  obtain ⟨k, h⟩ := P l0 hm0 y0 hw0
  refine (laws_FnSines.calls k _ _ l0 true w (Kd.C_of_reads (d := (0 : Int)) (h1 := fun _ => rfl) hr0) hc0 h).mono ?_
  rintro e w' ⟨rfl, hd⟩
  exact ⟨rfl, hd⟩

end Go.Proofs.Ytcnaocjhfgnphaa.PFnSines
