-- The machine's side of the law FnFractions: functions and their walks, made by q.py out of the kit's own print.
import Derived.Test.YtcnaocjhfgnphaaQFnFractionsx0
import Derived.Test.YtcnaocjhfgnphaaQFnFractionsx1
import Derived.Test.YtcnaocjhfgnphaaQFnFractionsx2
namespace Go.Proofs.Ytcnaocjhfgnphaa.PFnFractions
open Go.RowKit Go.Proofs.YtcnaocjhfgnphaaW.PrintWords Go.Proofs.YtcnaocjhfgnphaaW.PrintLast Go.Proofs.YtcnaocjhfgnphaaW.PrintMore
attribute [local go_sem] max2_int min2_int max_two min_two max_three min_three max_four min_four   -- for this text's walks alone
set_option linter.unusedVariables false
set_option linter.unusedSimpArgs false

/-! ### laws_FnFractions: function 5 -/
mutual
def laws_FnFractions.j0 : Nat → Int → Int → Int → Int → Int → Int → Bool → Option (Bool)
  | 0, _, _, _, _, _, _, _ => none
  | k + 1, x3, x4, x5, x6, x9, x13, x97 => if x97 = true then (some false) else (if x6 = 0 then (if (wrap64 (x9 - x5)) > 1 then (laws_FnFractions.j1 k x3 x4 x5 x9 x13 true) else (if x4 = 0 then (none) else (if ((x5 == x9) != ((Int.tmod x3 x4) == 0)) = true then (laws_FnFractions.j1 k x3 x4 x5 x9 x13 true) else (if x13 = x5 then (laws_FnFractions.j1 k x3 x4 x5 x9 x13 false) else (laws_FnFractions.j1 k x3 x4 x5 x9 x13 (x13 != x9)))))) else (some true))
def laws_FnFractions.j1 : Nat → Int → Int → Int → Int → Int → Bool → Option (Bool)
  | 0, _, _, _, _, _, _ => none
  | k + 1, x3, x4, x5, x9, x13, x123 => if x123 = true then (some false) else (if x4 < 0 then (if (wrap64 (x5 * (wrap64 (-x4)))) ≤ (wrap64 (-x3)) then (if (wrap64 (-x3)) ≤ (wrap64 (x9 * (wrap64 (-x4)))) then (if (wrap64 (2 * (wrap64 ((wrap64 (x13 * (wrap64 (-x4)))) - (wrap64 (-x3)))))) ≤ (wrap64 (-x4)) then (some (decide ((wrap64 (2 * (wrap64 ((wrap64 (-x3)) - (wrap64 (x13 * (wrap64 (-x4)))))))) < (wrap64 (-x4))))) else (some false)) else (some false)) else (some false)) else (if (wrap64 (x5 * x4)) ≤ x3 then (if x3 ≤ (wrap64 (x9 * x4)) then (if (wrap64 (2 * (wrap64 ((wrap64 (x13 * x4)) - x3)))) ≤ x4 then (some (decide ((wrap64 (2 * (wrap64 (x3 - (wrap64 (x13 * x4)))))) < x4))) else (some false)) else (some false)) else (some false)))
end
def laws_FnFractions.f (k : Nat) (l0 : List Int) : Option (Bool) := (laws_big.f l0).bind fun t176 => (if t176 = true then (some true) else ((spec_DrawFloorOf.f k l0).bind fun bt177 => ((impl_FloorOf.f k bt177.1 bt177.2).bind fun bt179 => ((spec_FloorOf.f k bt177.1 bt177.2).bind fun bt181 => ((impl_CeilOf.f k bt177.1 bt177.2).bind fun bt183 => ((spec_CeilOf.f k bt177.1 bt177.2).bind fun bt185 => ((impl_NearestOf.f k bt177.1 bt177.2).bind fun bt187 => ((spec_NearestOf.f k bt177.1 bt177.2).bind fun bt189 => (if bt179.2 = bt181.2 then (if bt179.1 = bt181.1 then (if bt183.2 = bt185.2 then (if bt183.1 = bt185.1 then (if bt187.2 = bt189.2 then (if bt187.1 = bt189.1 then (if bt183.2 = bt179.2 then (laws_FnFractions.j0 k bt177.1 bt177.2 bt179.1 bt179.2 bt183.1 bt187.1 (bt187.2 != bt179.2)) else (laws_FnFractions.j0 k bt177.1 bt177.2 bt179.1 bt179.2 bt183.1 bt187.1 true)) else (laws_FnFractions.j0 k bt177.1 bt177.2 bt179.1 bt179.2 bt183.1 bt187.1 true)) else (laws_FnFractions.j0 k bt177.1 bt177.2 bt179.1 bt179.2 bt183.1 bt187.1 true)) else (laws_FnFractions.j0 k bt177.1 bt177.2 bt179.1 bt179.2 bt183.1 bt187.1 true)) else (laws_FnFractions.j0 k bt177.1 bt177.2 bt179.1 bt179.2 bt183.1 bt187.1 true)) else (laws_FnFractions.j0 k bt177.1 bt177.2 bt179.1 bt179.2 bt183.1 bt187.1 true)) else (laws_FnFractions.j0 k bt177.1 bt177.2 bt179.1 bt179.2 bt183.1 bt187.1 true))))))))))
theorem laws_FnFractions.mono_l : ∀ k, (∀ y0 y1 y2 y3 y4 y5 y6, LeO (laws_FnFractions.j0 k y0 y1 y2 y3 y4 y5 y6) (laws_FnFractions.j0 (k + 1) y0 y1 y2 y3 y4 y5 y6)) ∧ (∀ y0 y1 y2 y3 y4 y5, LeO (laws_FnFractions.j1 k y0 y1 y2 y3 y4 y5) (laws_FnFractions.j1 (k + 1) y0 y1 y2 y3 y4 y5))
  | 0 => ⟨fun _ _ _ _ _ _ _ r h => by simp [laws_FnFractions.j0] at h, fun _ _ _ _ _ _ r h => by simp [laws_FnFractions.j1] at h⟩
  | k + 1 => by
    obtain ⟨ih0, ih1⟩ := laws_FnFractions.mono_l k
    refine ⟨?_, ?_⟩
    · intro y0 y1 y2 y3 y4 y5 y6
      unfold laws_FnFractions.j0
      repeat' first
      | (with_reducible exact ih0 _ _ _ _ _ _ _)
      | (with_reducible exact ih1 _ _ _ _ _ _)
      | (with_reducible exact impl_CeilOf.mono _ _ _)
      | (with_reducible exact impl_FloorOf.mono _ _ _)
      | (with_reducible exact impl_NearestOf.mono _ _ _)
      | (with_reducible exact spec_CeilOf.mono _ _ _)
      | (with_reducible exact spec_DrawFloorOf.mono _ _)
      | (with_reducible exact spec_FloorOf.mono _ _ _)
      | (with_reducible exact spec_NearestOf.mono _ _ _)
      | (with_reducible exact LeO.refl _)
      | (with_reducible exact LeO.none _)
      | (with_reducible refine LeO.ite ?_ ?_)
      | (with_reducible refine LeO.bind ?_ (fun _ => ?_))
      | exact ih0 _ _ _ _ _ _ _
      | exact ih1 _ _ _ _ _ _
      | exact impl_CeilOf.mono _ _ _
      | exact impl_FloorOf.mono _ _ _
      | exact impl_NearestOf.mono _ _ _
      | exact spec_CeilOf.mono _ _ _
      | exact spec_DrawFloorOf.mono _ _
      | exact spec_FloorOf.mono _ _ _
      | exact spec_NearestOf.mono _ _ _
      | exact LeO.none _
      | refine LeO.ite ?_ ?_
      | refine LeO.bind ?_ (fun _ => ?_)
    · intro y0 y1 y2 y3 y4 y5
      unfold laws_FnFractions.j1
      repeat' first
      | (with_reducible exact ih0 _ _ _ _ _ _ _)
      | (with_reducible exact ih1 _ _ _ _ _ _)
      | (with_reducible exact impl_CeilOf.mono _ _ _)
      | (with_reducible exact impl_FloorOf.mono _ _ _)
      | (with_reducible exact impl_NearestOf.mono _ _ _)
      | (with_reducible exact spec_CeilOf.mono _ _ _)
      | (with_reducible exact spec_DrawFloorOf.mono _ _)
      | (with_reducible exact spec_FloorOf.mono _ _ _)
      | (with_reducible exact spec_NearestOf.mono _ _ _)
      | (with_reducible exact LeO.refl _)
      | (with_reducible exact LeO.none _)
      | (with_reducible refine LeO.ite ?_ ?_)
      | (with_reducible refine LeO.bind ?_ (fun _ => ?_))
      | exact ih0 _ _ _ _ _ _ _
      | exact ih1 _ _ _ _ _ _
      | exact impl_CeilOf.mono _ _ _
      | exact impl_FloorOf.mono _ _ _
      | exact impl_NearestOf.mono _ _ _
      | exact spec_CeilOf.mono _ _ _
      | exact spec_DrawFloorOf.mono _ _
      | exact spec_FloorOf.mono _ _ _
      | exact spec_NearestOf.mono _ _ _
      | exact LeO.none _
      | refine LeO.ite ?_ ?_
      | refine LeO.bind ?_ (fun _ => ?_)
theorem laws_FnFractions.mono : ∀ a0 k, LeO (laws_FnFractions.f k a0) (laws_FnFractions.f (k + 1) a0) := by
  intro a0 k
  obtain ⟨ih0, ih1⟩ := laws_FnFractions.mono_l k
  unfold laws_FnFractions.f
  repeat' first
      | (with_reducible exact ih0 _ _ _ _ _ _ _)
      | (with_reducible exact ih1 _ _ _ _ _ _)
      | (with_reducible exact impl_CeilOf.mono _ _ _)
      | (with_reducible exact impl_FloorOf.mono _ _ _)
      | (with_reducible exact impl_NearestOf.mono _ _ _)
      | (with_reducible exact spec_CeilOf.mono _ _ _)
      | (with_reducible exact spec_DrawFloorOf.mono _ _)
      | (with_reducible exact spec_FloorOf.mono _ _ _)
      | (with_reducible exact spec_NearestOf.mono _ _ _)
      | (with_reducible exact LeO.refl _)
      | (with_reducible exact LeO.none _)
      | (with_reducible refine LeO.ite ?_ ?_)
      | (with_reducible refine LeO.bind ?_ (fun _ => ?_))
      | exact ih0 _ _ _ _ _ _ _
      | exact ih1 _ _ _ _ _ _
      | exact impl_CeilOf.mono _ _ _
      | exact impl_FloorOf.mono _ _ _
      | exact impl_NearestOf.mono _ _ _
      | exact spec_CeilOf.mono _ _ _
      | exact spec_DrawFloorOf.mono _ _
      | exact spec_FloorOf.mono _ _ _
      | exact spec_NearestOf.mono _ _ _
      | exact LeO.none _
      | refine LeO.ite ?_ ?_
      | refine LeO.bind ?_ (fun _ => ?_)
set_option maxHeartbeats 8000000 in
set_option maxRecDepth 100000 in
theorem laws_FnFractions.calls (k : Nat) (A0 : Option Addr) (c0 : Nat) (l0 : List Int) (r : Bool) (w : World) (hr0 : Kd.C (Kd.int .u8) w A0 l0.length l0) (hc0 : l0.length ≤ c0) (h : laws_FnFractions.f k l0 = some r) :
    Calls Try.prog 5 #[.slice A0 l0.length c0] w fun e w' => e = .returned (.bool r) ∧ Below w.heap.size w w' := by
  have HR0 := Aside0.mk hr0
  have HC0 := Aside0.mk hc0
  clear hr0 hc0
  have HB := Aside0.mk (Below.refl w.heap.size w)
  have H : ((laws_big.f l0).bind fun t176 => (if t176 = true then (some true) else ((spec_DrawFloorOf.f k l0).bind fun bt177 => ((impl_FloorOf.f k bt177.1 bt177.2).bind fun bt179 => ((spec_FloorOf.f k bt177.1 bt177.2).bind fun bt181 => ((impl_CeilOf.f k bt177.1 bt177.2).bind fun bt183 => ((spec_CeilOf.f k bt177.1 bt177.2).bind fun bt185 => ((impl_NearestOf.f k bt177.1 bt177.2).bind fun bt187 => ((spec_NearestOf.f k bt177.1 bt177.2).bind fun bt189 => (if bt179.2 = bt181.2 then (if bt179.1 = bt181.1 then (if bt183.2 = bt185.2 then (if bt183.1 = bt185.1 then (if bt187.2 = bt189.2 then (if bt187.1 = bt189.1 then (if bt183.2 = bt179.2 then (laws_FnFractions.j0 k bt177.1 bt177.2 bt179.1 bt179.2 bt183.1 bt187.1 (bt187.2 != bt179.2)) else (laws_FnFractions.j0 k bt177.1 bt177.2 bt179.1 bt179.2 bt183.1 bt187.1 true)) else (laws_FnFractions.j0 k bt177.1 bt177.2 bt179.1 bt179.2 bt183.1 bt187.1 true)) else (laws_FnFractions.j0 k bt177.1 bt177.2 bt179.1 bt179.2 bt183.1 bt187.1 true)) else (laws_FnFractions.j0 k bt177.1 bt177.2 bt179.1 bt179.2 bt183.1 bt187.1 true)) else (laws_FnFractions.j0 k bt177.1 bt177.2 bt179.1 bt179.2 bt183.1 bt187.1 true)) else (laws_FnFractions.j0 k bt177.1 bt177.2 bt179.1 bt179.2 bt183.1 bt187.1 true)) else (laws_FnFractions.j0 k bt177.1 bt177.2 bt179.1 bt179.2 bt183.1 bt187.1 true))))))))))) = some r := h
  clear h
  replace H := Option.bind_eq_some_iff.mp H
  obtain ⟨t176, A20, H⟩ := H
  replace H : (if t176 = true then (some true) else ((spec_DrawFloorOf.f k l0).bind fun bt177 => ((impl_FloorOf.f k bt177.1 bt177.2).bind fun bt179 => ((spec_FloorOf.f k bt177.1 bt177.2).bind fun bt181 => ((impl_CeilOf.f k bt177.1 bt177.2).bind fun bt183 => ((spec_CeilOf.f k bt177.1 bt177.2).bind fun bt185 => ((impl_NearestOf.f k bt177.1 bt177.2).bind fun bt187 => ((spec_NearestOf.f k bt177.1 bt177.2).bind fun bt189 => (if bt179.2 = bt181.2 then (if bt179.1 = bt181.1 then (if bt183.2 = bt185.2 then (if bt183.1 = bt185.1 then (if bt187.2 = bt189.2 then (if bt187.1 = bt189.1 then (if bt183.2 = bt179.2 then (laws_FnFractions.j0 k bt177.1 bt177.2 bt179.1 bt179.2 bt183.1 bt187.1 (bt187.2 != bt179.2)) else (laws_FnFractions.j0 k bt177.1 bt177.2 bt179.1 bt179.2 bt183.1 bt187.1 true)) else (laws_FnFractions.j0 k bt177.1 bt177.2 bt179.1 bt179.2 bt183.1 bt187.1 true)) else (laws_FnFractions.j0 k bt177.1 bt177.2 bt179.1 bt179.2 bt183.1 bt187.1 true)) else (laws_FnFractions.j0 k bt177.1 bt177.2 bt179.1 bt179.2 bt183.1 bt187.1 true)) else (laws_FnFractions.j0 k bt177.1 bt177.2 bt179.1 bt179.2 bt183.1 bt187.1 true)) else (laws_FnFractions.j0 k bt177.1 bt177.2 bt179.1 bt179.2 bt183.1 bt187.1 true)) else (laws_FnFractions.j0 k bt177.1 bt177.2 bt179.1 bt179.2 bt183.1 bt187.1 true)))))))))) = some r := H
  have A2 := Aside0.mk A20
  clear A20
  by_cases c3 : t176 = true
  · subst c3
    have H1 : (some true) = some r := by rw [if_pos rfl] at H; exact H
    clear H
    have H := H1
    clear H1
    obtain rfl := Option.some.inj H
    go_enter Try.func5, Try.ntmps5
    go_wp2_with (first | ((with_reducible refine gate_callee (f := 9) rfl ?_); refine goesL_ (some 18) rfl rfl Try.func9 (by kernel_rfl) rfl #[.slice A0 l0.length c0] rfl (by (try simp only [List.map_toArray, List.map_cons, List.map_nil]); first | done | rfl | (simp only [List.length_drop, List.length_take]; rfl)) ?_; (with_reducible refine (laws_big.calls _ _ l0 true _ ?side1 ?side2 A2.out).mono ?_); (case side1 => repeat (first | exact HR0.out | (with_reducible refine Kd.C_alloc ?_ _) | (with_reducible refine Kd.C_drewN ?_ _) | (with_reducible refine Kd.C_drew ?_))); (case side2 => exact HC0.out); rintro e w' ⟨rfl, ⟨nd, rfl⟩⟩; refine ⟨_, rfl, ?_⟩))
    go_ret
    exact ⟨by first | rfl | (simp [errW_none, errW_some] <;> rfl) | (simp [*, errW_none, errW_some] <;> rfl), by repeat (first | (with_reducible first | exact HB.out | apply below_alloc | apply pw_below_drewN | apply below_drew1) | exact HB.out)⟩
  · replace c3 := Bool.eq_false_iff.mpr c3
    subst c3
    have H1 : ((spec_DrawFloorOf.f k l0).bind fun bt177 => ((impl_FloorOf.f k bt177.1 bt177.2).bind fun bt179 => ((spec_FloorOf.f k bt177.1 bt177.2).bind fun bt181 => ((impl_CeilOf.f k bt177.1 bt177.2).bind fun bt183 => ((spec_CeilOf.f k bt177.1 bt177.2).bind fun bt185 => ((impl_NearestOf.f k bt177.1 bt177.2).bind fun bt187 => ((spec_NearestOf.f k bt177.1 bt177.2).bind fun bt189 => (if bt179.2 = bt181.2 then (if bt179.1 = bt181.1 then (if bt183.2 = bt185.2 then (if bt183.1 = bt185.1 then (if bt187.2 = bt189.2 then (if bt187.1 = bt189.1 then (if bt183.2 = bt179.2 then (laws_FnFractions.j0 k bt177.1 bt177.2 bt179.1 bt179.2 bt183.1 bt187.1 (bt187.2 != bt179.2)) else (laws_FnFractions.j0 k bt177.1 bt177.2 bt179.1 bt179.2 bt183.1 bt187.1 true)) else (laws_FnFractions.j0 k bt177.1 bt177.2 bt179.1 bt179.2 bt183.1 bt187.1 true)) else (laws_FnFractions.j0 k bt177.1 bt177.2 bt179.1 bt179.2 bt183.1 bt187.1 true)) else (laws_FnFractions.j0 k bt177.1 bt177.2 bt179.1 bt179.2 bt183.1 bt187.1 true)) else (laws_FnFractions.j0 k bt177.1 bt177.2 bt179.1 bt179.2 bt183.1 bt187.1 true)) else (laws_FnFractions.j0 k bt177.1 bt177.2 bt179.1 bt179.2 bt183.1 bt187.1 true)) else (laws_FnFractions.j0 k bt177.1 bt177.2 bt179.1 bt179.2 bt183.1 bt187.1 true))))))))) = some r := by rw [if_neg (show ¬ (false = true) by decide)] at H; exact H
    clear H
    have H := H1
    clear H1
    replace H := Option.bind_eq_some_iff.mp H
    obtain ⟨⟨t177, t178⟩, A40, H⟩ := H
    replace H : ((impl_FloorOf.f k t177 t178).bind fun bt179 => ((spec_FloorOf.f k t177 t178).bind fun bt181 => ((impl_CeilOf.f k t177 t178).bind fun bt183 => ((spec_CeilOf.f k t177 t178).bind fun bt185 => ((impl_NearestOf.f k t177 t178).bind fun bt187 => ((spec_NearestOf.f k t177 t178).bind fun bt189 => (if bt179.2 = bt181.2 then (if bt179.1 = bt181.1 then (if bt183.2 = bt185.2 then (if bt183.1 = bt185.1 then (if bt187.2 = bt189.2 then (if bt187.1 = bt189.1 then (if bt183.2 = bt179.2 then (laws_FnFractions.j0 k t177 t178 bt179.1 bt179.2 bt183.1 bt187.1 (bt187.2 != bt179.2)) else (laws_FnFractions.j0 k t177 t178 bt179.1 bt179.2 bt183.1 bt187.1 true)) else (laws_FnFractions.j0 k t177 t178 bt179.1 bt179.2 bt183.1 bt187.1 true)) else (laws_FnFractions.j0 k t177 t178 bt179.1 bt179.2 bt183.1 bt187.1 true)) else (laws_FnFractions.j0 k t177 t178 bt179.1 bt179.2 bt183.1 bt187.1 true)) else (laws_FnFractions.j0 k t177 t178 bt179.1 bt179.2 bt183.1 bt187.1 true)) else (laws_FnFractions.j0 k t177 t178 bt179.1 bt179.2 bt183.1 bt187.1 true)) else (laws_FnFractions.j0 k t177 t178 bt179.1 bt179.2 bt183.1 bt187.1 true)))))))) = some r := H
    have A4 := Aside0.mk A40
    clear A40
    replace H := Option.bind_eq_some_iff.mp H
    obtain ⟨⟨t179, t180⟩, A50, H⟩ := H
    replace H : ((spec_FloorOf.f k t177 t178).bind fun bt181 => ((impl_CeilOf.f k t177 t178).bind fun bt183 => ((spec_CeilOf.f k t177 t178).bind fun bt185 => ((impl_NearestOf.f k t177 t178).bind fun bt187 => ((spec_NearestOf.f k t177 t178).bind fun bt189 => (if t180 = bt181.2 then (if t179 = bt181.1 then (if bt183.2 = bt185.2 then (if bt183.1 = bt185.1 then (if bt187.2 = bt189.2 then (if bt187.1 = bt189.1 then (if bt183.2 = t180 then (laws_FnFractions.j0 k t177 t178 t179 t180 bt183.1 bt187.1 (bt187.2 != t180)) else (laws_FnFractions.j0 k t177 t178 t179 t180 bt183.1 bt187.1 true)) else (laws_FnFractions.j0 k t177 t178 t179 t180 bt183.1 bt187.1 true)) else (laws_FnFractions.j0 k t177 t178 t179 t180 bt183.1 bt187.1 true)) else (laws_FnFractions.j0 k t177 t178 t179 t180 bt183.1 bt187.1 true)) else (laws_FnFractions.j0 k t177 t178 t179 t180 bt183.1 bt187.1 true)) else (laws_FnFractions.j0 k t177 t178 t179 t180 bt183.1 bt187.1 true)) else (laws_FnFractions.j0 k t177 t178 t179 t180 bt183.1 bt187.1 true))))))) = some r := H
    have A5 := Aside0.mk A50
    clear A50
    replace H := Option.bind_eq_some_iff.mp H
    obtain ⟨⟨t181, t182⟩, A60, H⟩ := H
    replace H : ((impl_CeilOf.f k t177 t178).bind fun bt183 => ((spec_CeilOf.f k t177 t178).bind fun bt185 => ((impl_NearestOf.f k t177 t178).bind fun bt187 => ((spec_NearestOf.f k t177 t178).bind fun bt189 => (if t180 = t182 then (if t179 = t181 then (if bt183.2 = bt185.2 then (if bt183.1 = bt185.1 then (if bt187.2 = bt189.2 then (if bt187.1 = bt189.1 then (if bt183.2 = t180 then (laws_FnFractions.j0 k t177 t178 t179 t180 bt183.1 bt187.1 (bt187.2 != t180)) else (laws_FnFractions.j0 k t177 t178 t179 t180 bt183.1 bt187.1 true)) else (laws_FnFractions.j0 k t177 t178 t179 t180 bt183.1 bt187.1 true)) else (laws_FnFractions.j0 k t177 t178 t179 t180 bt183.1 bt187.1 true)) else (laws_FnFractions.j0 k t177 t178 t179 t180 bt183.1 bt187.1 true)) else (laws_FnFractions.j0 k t177 t178 t179 t180 bt183.1 bt187.1 true)) else (laws_FnFractions.j0 k t177 t178 t179 t180 bt183.1 bt187.1 true)) else (laws_FnFractions.j0 k t177 t178 t179 t180 bt183.1 bt187.1 true)))))) = some r := H
    have A6 := Aside0.mk A60
    clear A60
    replace H := Option.bind_eq_some_iff.mp H
    obtain ⟨⟨t183, t184⟩, A70, H⟩ := H
    replace H : ((spec_CeilOf.f k t177 t178).bind fun bt185 => ((impl_NearestOf.f k t177 t178).bind fun bt187 => ((spec_NearestOf.f k t177 t178).bind fun bt189 => (if t180 = t182 then (if t179 = t181 then (if t184 = bt185.2 then (if t183 = bt185.1 then (if bt187.2 = bt189.2 then (if bt187.1 = bt189.1 then (if t184 = t180 then (laws_FnFractions.j0 k t177 t178 t179 t180 t183 bt187.1 (bt187.2 != t180)) else (laws_FnFractions.j0 k t177 t178 t179 t180 t183 bt187.1 true)) else (laws_FnFractions.j0 k t177 t178 t179 t180 t183 bt187.1 true)) else (laws_FnFractions.j0 k t177 t178 t179 t180 t183 bt187.1 true)) else (laws_FnFractions.j0 k t177 t178 t179 t180 t183 bt187.1 true)) else (laws_FnFractions.j0 k t177 t178 t179 t180 t183 bt187.1 true)) else (laws_FnFractions.j0 k t177 t178 t179 t180 t183 bt187.1 true)) else (laws_FnFractions.j0 k t177 t178 t179 t180 t183 bt187.1 true))))) = some r := H
    have A7 := Aside0.mk A70
    clear A70
    replace H := Option.bind_eq_some_iff.mp H
    obtain ⟨⟨t185, t186⟩, A80, H⟩ := H
    replace H : ((impl_NearestOf.f k t177 t178).bind fun bt187 => ((spec_NearestOf.f k t177 t178).bind fun bt189 => (if t180 = t182 then (if t179 = t181 then (if t184 = t186 then (if t183 = t185 then (if bt187.2 = bt189.2 then (if bt187.1 = bt189.1 then (if t184 = t180 then (laws_FnFractions.j0 k t177 t178 t179 t180 t183 bt187.1 (bt187.2 != t180)) else (laws_FnFractions.j0 k t177 t178 t179 t180 t183 bt187.1 true)) else (laws_FnFractions.j0 k t177 t178 t179 t180 t183 bt187.1 true)) else (laws_FnFractions.j0 k t177 t178 t179 t180 t183 bt187.1 true)) else (laws_FnFractions.j0 k t177 t178 t179 t180 t183 bt187.1 true)) else (laws_FnFractions.j0 k t177 t178 t179 t180 t183 bt187.1 true)) else (laws_FnFractions.j0 k t177 t178 t179 t180 t183 bt187.1 true)) else (laws_FnFractions.j0 k t177 t178 t179 t180 t183 bt187.1 true)))) = some r := H
    have A8 := Aside0.mk A80
    clear A80
    replace H := Option.bind_eq_some_iff.mp H
    obtain ⟨⟨t187, t188⟩, A90, H⟩ := H
    replace H : ((spec_NearestOf.f k t177 t178).bind fun bt189 => (if t180 = t182 then (if t179 = t181 then (if t184 = t186 then (if t183 = t185 then (if t188 = bt189.2 then (if t187 = bt189.1 then (if t184 = t180 then (laws_FnFractions.j0 k t177 t178 t179 t180 t183 t187 (t188 != t180)) else (laws_FnFractions.j0 k t177 t178 t179 t180 t183 t187 true)) else (laws_FnFractions.j0 k t177 t178 t179 t180 t183 t187 true)) else (laws_FnFractions.j0 k t177 t178 t179 t180 t183 t187 true)) else (laws_FnFractions.j0 k t177 t178 t179 t180 t183 t187 true)) else (laws_FnFractions.j0 k t177 t178 t179 t180 t183 t187 true)) else (laws_FnFractions.j0 k t177 t178 t179 t180 t183 t187 true)) else (laws_FnFractions.j0 k t177 t178 t179 t180 t183 t187 true))) = some r := H
    have A9 := Aside0.mk A90
    clear A90
    replace H := Option.bind_eq_some_iff.mp H
    obtain ⟨⟨t189, t190⟩, A100, H⟩ := H
    replace H : (if t180 = t182 then (if t179 = t181 then (if t184 = t186 then (if t183 = t185 then (if t188 = t190 then (if t187 = t189 then (if t184 = t180 then (laws_FnFractions.j0 k t177 t178 t179 t180 t183 t187 (t188 != t180)) else (laws_FnFractions.j0 k t177 t178 t179 t180 t183 t187 true)) else (laws_FnFractions.j0 k t177 t178 t179 t180 t183 t187 true)) else (laws_FnFractions.j0 k t177 t178 t179 t180 t183 t187 true)) else (laws_FnFractions.j0 k t177 t178 t179 t180 t183 t187 true)) else (laws_FnFractions.j0 k t177 t178 t179 t180 t183 t187 true)) else (laws_FnFractions.j0 k t177 t178 t179 t180 t183 t187 true)) else (laws_FnFractions.j0 k t177 t178 t179 t180 t183 t187 true)) = some r := H
    have A10 := Aside0.mk A100
    clear A100
    have HC11 := Aside0.mk H
    clear H
    go_enter Try.func5, Try.ntmps5
    go_upto_region 10 with (first | ((with_reducible refine gate_callee (f := 9) rfl ?_); refine goesL_ (some 18) rfl rfl Try.func9 (by kernel_rfl) rfl #[.slice A0 l0.length c0] rfl (by (try simp only [List.map_toArray, List.map_cons, List.map_nil]); first | done | rfl | (simp only [List.length_drop, List.length_take]; rfl)) ?_; (with_reducible refine (laws_big.calls _ _ l0 false _ ?side1 ?side2 A2.out).mono ?_); (case side1 => repeat (first | exact HR0.out | (with_reducible refine Kd.C_alloc ?_ _) | (with_reducible refine Kd.C_drewN ?_ _) | (with_reducible refine Kd.C_drew ?_))); (case side2 => exact HC0.out); rintro e w' ⟨rfl, ⟨nd, rfl⟩⟩; refine ⟨_, rfl, ?_⟩) | ((with_reducible refine gate_callee (f := 25) rfl ?_); refine goesL_ (some 21) rfl rfl Try.func25 (by kernel_rfl) rfl #[.slice A0 l0.length c0] rfl (by (try simp only [List.map_toArray, List.map_cons, List.map_nil]); first | done | rfl | (simp only [List.length_drop, List.length_take]; rfl)) ?_; (with_reducible refine (spec_DrawFloorOf.calls k _ _ l0 t177 t178 _ ?side1 ?side2 A4.out).mono ?_); (case side1 => repeat (first | exact HR0.out | (with_reducible refine Kd.C_alloc ?_ _) | (with_reducible refine Kd.C_drewN ?_ _) | (with_reducible refine Kd.C_drew ?_))); (case side2 => exact HC0.out); rintro e w12 ⟨rfl, hb⟩; refine ⟨_, rfl, ?_⟩; have n0_ := Aside0.mk (below_step (by repeat (first | (with_reducible first | exact HB.out | apply below_alloc | apply pw_below_drewN | apply below_drew1) | exact HB.out)) hb); clear HB; have HB := n0_; clear n0_; (try clear hb); (try clear hb2); (try clear hk); (try clear hi)) | ((with_reducible refine gate_callee (f := 26) rfl ?_); refine goesL_ (some 27) rfl rfl Try.func26 (by kernel_rfl) rfl #[.int .i64 t177, .int .i64 t178] rfl (by (try simp only [List.map_toArray, List.map_cons, List.map_nil]); first | done | rfl | (simp only [List.length_drop, List.length_take]; rfl)) ?_; (with_reducible refine (impl_FloorOf.calls k t177 t178 t179 t180 _ A5.out).mono ?_); rintro e w' ⟨rfl, ⟨nd, rfl⟩⟩; refine ⟨_, rfl, ?_⟩) | ((with_reducible refine gate_callee (f := 27) rfl ?_); refine goesL_ (some 33) rfl rfl Try.func27 (by kernel_rfl) rfl #[.int .i64 t177, .int .i64 t178] rfl (by (try simp only [List.map_toArray, List.map_cons, List.map_nil]); first | done | rfl | (simp only [List.length_drop, List.length_take]; rfl)) ?_; (with_reducible refine (spec_FloorOf.calls k t177 t178 t181 t182 _ A6.out).mono ?_); rintro e w' ⟨rfl, ⟨nd, rfl⟩⟩; refine ⟨_, rfl, ?_⟩) | ((with_reducible refine gate_callee (f := 28) rfl ?_); refine goesL_ (some 39) rfl rfl Try.func28 (by kernel_rfl) rfl #[.int .i64 t177, .int .i64 t178] rfl (by (try simp only [List.map_toArray, List.map_cons, List.map_nil]); first | done | rfl | (simp only [List.length_drop, List.length_take]; rfl)) ?_; (with_reducible refine (impl_CeilOf.calls k t177 t178 t183 t184 _ A7.out).mono ?_); rintro e w' ⟨rfl, ⟨nd, rfl⟩⟩; refine ⟨_, rfl, ?_⟩) | ((with_reducible refine gate_callee (f := 29) rfl ?_); refine goesL_ (some 45) rfl rfl Try.func29 (by kernel_rfl) rfl #[.int .i64 t177, .int .i64 t178] rfl (by (try simp only [List.map_toArray, List.map_cons, List.map_nil]); first | done | rfl | (simp only [List.length_drop, List.length_take]; rfl)) ?_; (with_reducible refine (spec_CeilOf.calls k t177 t178 t185 t186 _ A8.out).mono ?_); rintro e w' ⟨rfl, ⟨nd, rfl⟩⟩; refine ⟨_, rfl, ?_⟩) | ((with_reducible refine gate_callee (f := 30) rfl ?_); refine goesL_ (some 51) rfl rfl Try.func30 (by kernel_rfl) rfl #[.int .i64 t177, .int .i64 t178] rfl (by (try simp only [List.map_toArray, List.map_cons, List.map_nil]); first | done | rfl | (simp only [List.length_drop, List.length_take]; rfl)) ?_; (with_reducible refine (impl_NearestOf.calls k t177 t178 t187 t188 _ A9.out).mono ?_); rintro e w' ⟨rfl, ⟨nd, rfl⟩⟩; refine ⟨_, rfl, ?_⟩) | ((with_reducible refine gate_callee (f := 31) rfl ?_); refine goesL_ (some 57) rfl rfl Try.func31 (by kernel_rfl) rfl #[.int .i64 t177, .int .i64 t178] rfl (by (try simp only [List.map_toArray, List.map_cons, List.map_nil]); first | done | rfl | (simp only [List.length_drop, List.length_take]; rfl)) ?_; (with_reducible refine (spec_NearestOf.calls k t177 t178 t189 t190 _ A10.out).mono ?_); rintro e w' ⟨rfl, ⟨nd, rfl⟩⟩; refine ⟨_, rfl, ?_⟩))
    (try simp only [Act.put, List.setIfInBounds_toArray, List.set_cons_zero, List.set_cons_succ])
    go_cut [97] (fun v97 wc => ∃ (kq : Nat) (x97_10 : Bool), v97 = .bool x97_10 ∧ Aside0 (laws_FnFractions.j0 kq t177 t178 t179 t180 t183 t187 x97_10 = some r) ∧ Aside0 (kq ≤ k) ∧ Aside0 (Below w.heap.size w wc))
    case first =>
      have H := HC11.out
      clear HC11
      by_cases c13 : t180 = t182
      · rw [if_pos c13] at H
        have c13b0 : (t180 == t182) = true := beq_iff_eq.mpr c13
        have c13b1 : (t180 != t182) = false := bne_eq_false_iff_eq.mpr c13
        clear c13
        (first | rw [c13b0] | (simp only [i64_w, i32_w]; rw [c13b0]) | skip)
        by_cases c14 : t179 = t181
        · rw [if_pos c14] at H
          have c14b0 : (t179 == t181) = true := beq_iff_eq.mpr c14
          have c14b1 : (t179 != t181) = false := bne_eq_false_iff_eq.mpr c14
          clear c14
          by_cases c15 : t184 = t186
          · rw [if_pos c15] at H
            have c15b0 : (t184 == t186) = true := beq_iff_eq.mpr c15
            have c15b1 : (t184 != t186) = false := bne_eq_false_iff_eq.mpr c15
            clear c15
            by_cases c16 : t183 = t185
            · rw [if_pos c16] at H
              have c16b0 : (t183 == t185) = true := beq_iff_eq.mpr c16
              have c16b1 : (t183 != t185) = false := bne_eq_false_iff_eq.mpr c16
              clear c16
              by_cases c17 : t188 = t190
              · rw [if_pos c17] at H
                have c17b0 : (t188 == t190) = true := beq_iff_eq.mpr c17
                have c17b1 : (t188 != t190) = false := bne_eq_false_iff_eq.mpr c17
                clear c17
                by_cases c18 : t187 = t189
                · rw [if_pos c18] at H
                  have c18b0 : (t187 == t189) = true := beq_iff_eq.mpr c18
                  have c18b1 : (t187 != t189) = false := bne_eq_false_iff_eq.mpr c18
                  clear c18
                  by_cases c19 : t184 = t180
                  · rw [if_pos c19] at H
                    have c19b0 : (t184 == t180) = true := beq_iff_eq.mpr c19
                    have c19b1 : (t184 != t180) = false := bne_eq_false_iff_eq.mpr c19
                    clear c19
                    have H' := Aside0.mk H
                    clear H
                    go_wp2
                    go_meet
                    case rel => exact ⟨_, ((t188 != t180)), (by first | rfl | (simp; done) | (simp [*]; done)), H', ⟨by first | omega | exact Nat.le_refl _⟩, ⟨by repeat (first | (with_reducible first | exact HB.out | apply below_alloc | apply pw_below_drewN | apply below_drew1) | exact HB.out)⟩⟩
                  · rw [if_neg c19] at H
                    have c19b0 : (t184 == t180) = false := beq_eq_false_iff_ne.mpr c19
                    have c19b1 : (t184 != t180) = true := bne_iff_ne.mpr c19
                    have H' := Aside0.mk H
                    clear H
                    go_wp2
                    go_meet
                    case rel => exact ⟨_, (true), (by first | rfl | (simp; done) | (simp [*]; done)), H', ⟨by first | omega | exact Nat.le_refl _⟩, ⟨by repeat (first | (with_reducible first | exact HB.out | apply below_alloc | apply pw_below_drewN | apply below_drew1) | exact HB.out)⟩⟩
                · rw [if_neg c18] at H
                  have c18b0 : (t187 == t189) = false := beq_eq_false_iff_ne.mpr c18
                  have c18b1 : (t187 != t189) = true := bne_iff_ne.mpr c18
                  have H' := Aside0.mk H
                  clear H
                  go_wp2
                  go_meet
                  case rel => exact ⟨_, (true), (by first | rfl | (simp; done) | (simp [*]; done)), H', ⟨by first | omega | exact Nat.le_refl _⟩, ⟨by repeat (first | (with_reducible first | exact HB.out | apply below_alloc | apply pw_below_drewN | apply below_drew1) | exact HB.out)⟩⟩
              · rw [if_neg c17] at H
                have c17b0 : (t188 == t190) = false := beq_eq_false_iff_ne.mpr c17
                have c17b1 : (t188 != t190) = true := bne_iff_ne.mpr c17
                have H' := Aside0.mk H
                clear H
                go_wp2
                go_meet
                case rel => exact ⟨_, (true), (by first | rfl | (simp; done) | (simp [*]; done)), H', ⟨by first | omega | exact Nat.le_refl _⟩, ⟨by repeat (first | (with_reducible first | exact HB.out | apply below_alloc | apply pw_below_drewN | apply below_drew1) | exact HB.out)⟩⟩
            · rw [if_neg c16] at H
              have c16b0 : (t183 == t185) = false := beq_eq_false_iff_ne.mpr c16
              have c16b1 : (t183 != t185) = true := bne_iff_ne.mpr c16
              have H' := Aside0.mk H
              clear H
              go_wp2
              go_meet
              case rel => exact ⟨_, (true), (by first | rfl | (simp; done) | (simp [*]; done)), H', ⟨by first | omega | exact Nat.le_refl _⟩, ⟨by repeat (first | (with_reducible first | exact HB.out | apply below_alloc | apply pw_below_drewN | apply below_drew1) | exact HB.out)⟩⟩
          · rw [if_neg c15] at H
            have c15b0 : (t184 == t186) = false := beq_eq_false_iff_ne.mpr c15
            have c15b1 : (t184 != t186) = true := bne_iff_ne.mpr c15
            have H' := Aside0.mk H
            clear H
            go_wp2
            go_meet
            case rel => exact ⟨_, (true), (by first | rfl | (simp; done) | (simp [*]; done)), H', ⟨by first | omega | exact Nat.le_refl _⟩, ⟨by repeat (first | (with_reducible first | exact HB.out | apply below_alloc | apply pw_below_drewN | apply below_drew1) | exact HB.out)⟩⟩
        · rw [if_neg c14] at H
          have c14b0 : (t179 == t181) = false := beq_eq_false_iff_ne.mpr c14
          have c14b1 : (t179 != t181) = true := bne_iff_ne.mpr c14
          have H' := Aside0.mk H
          clear H
          go_wp2
          go_meet
          case rel => exact ⟨_, (true), (by first | rfl | (simp; done) | (simp [*]; done)), H', ⟨by first | omega | exact Nat.le_refl _⟩, ⟨by repeat (first | (with_reducible first | exact HB.out | apply below_alloc | apply pw_below_drewN | apply below_drew1) | exact HB.out)⟩⟩
      · rw [if_neg c13] at H
        have c13b0 : (t180 == t182) = false := beq_eq_false_iff_ne.mpr c13
        have c13b1 : (t180 != t182) = true := bne_iff_ne.mpr c13
        (first | rw [c13b0] | (simp only [i64_w, i32_w]; rw [c13b0]) | skip)
        have H' := Aside0.mk H
        clear H
        go_wp2
        go_meet
        case rel => exact ⟨_, (true), (by first | rfl | (simp; done) | (simp [*]; done)), H', ⟨by first | omega | exact Nat.le_refl _⟩, ⟨by repeat (first | (with_reducible first | exact HB.out | apply below_alloc | apply pw_below_drewN | apply below_drew1) | exact HB.out)⟩⟩
    case rest =>
      clear HC11
      try clear c1
      try clear c2
      try clear p2
      try clear c3
      try clear c5
      try clear c9
      try clear c13
      try clear c13b0
      try clear c13b1
      try clear c14
      try clear c14b0
      try clear c14b1
      try clear c15
      try clear c15b0
      try clear c15b1
      try clear c16
      try clear c16b0
      try clear c16b1
      try clear c17
      try clear c17b0
      try clear c17b1
      try clear c18
      try clear c18b0
      try clear c18b1
      try clear c19
      try clear c19b0
      try clear c19b1
      obtain ⟨kq, x97_10, rfl, HA, HJ10, HB⟩ := hcut
      cases kq with
      | zero => exact absurd HA.out (by simp [laws_FnFractions.j0])
      | succ kj10 =>
        have H := HA.out
        clear HA
        simp only [laws_FnFractions.j0] at H
        by_cases c20 : x97_10 = true
        · subst c20
          have H1 : (some false) = some r := by rw [if_pos rfl] at H; exact H
          clear H
          have H := H1
          clear H1
          obtain rfl := Option.some.inj H
          go_wp2
          go_ret
          exact ⟨by first | rfl | (simp [errW_none, errW_some] <;> rfl) | (simp [*, errW_none, errW_some] <;> rfl), by repeat (first | (with_reducible first | exact HB.out | apply below_alloc | apply pw_below_drewN | apply below_drew1) | exact HB.out)⟩
        · replace c20 := Bool.eq_false_iff.mpr c20
          subst c20
          have H1 : (if t180 = 0 then (if (wrap64 (t183 - t179)) > 1 then (laws_FnFractions.j1 kj10 t177 t178 t179 t183 t187 true) else (if t178 = 0 then (none) else (if ((t179 == t183) != ((Int.tmod t177 t178) == 0)) = true then (laws_FnFractions.j1 kj10 t177 t178 t179 t183 t187 true) else (if t187 = t179 then (laws_FnFractions.j1 kj10 t177 t178 t179 t183 t187 false) else (laws_FnFractions.j1 kj10 t177 t178 t179 t183 t187 (t187 != t183)))))) else (some true)) = some r := by rw [if_neg (show ¬ (false = true) by decide)] at H; exact H
          clear H
          have H := H1
          clear H1
          by_cases c21 : t180 = 0
          · rw [if_pos c21] at H
            have c21b0 : (t180 == 0) = true := beq_iff_eq.mpr c21
            have c21b1 : (t180 != 0) = false := bne_eq_false_iff_eq.mpr c21
            clear c21
            have HC22 := Aside0.mk H
            clear H
            go_upto_region 14 with (fail)
            go_cut [123] (fun v123 wc => ∃ (kq : Nat) (x123_21 : Bool), v123 = .bool x123_21 ∧ Aside0 (laws_FnFractions.j1 kq t177 t178 t179 t183 t187 x123_21 = some r) ∧ Aside0 (kq ≤ kj10) ∧ Aside0 (Below w.heap.size w wc))
            case first =>
              have H := HC22.out
              clear HC22
              by_cases c23 : (wrap64 (t183 - t179)) > 1
              · rw [if_pos c23] at H
                have c23b0 : decide (1 < (wrap64 (t183 - t179))) = true := decide_eq_true c23
                clear c23
                (first | rw [c23b0] | (simp only [i64_w, i32_w]; rw [c23b0]) | skip)
                have H' := Aside0.mk H
                clear H
                go_wp2
                go_meet
                case rel => exact ⟨_, (true), (by first | rfl | (simp; done) | (simp [*]; done)), H', ⟨by have := HJ10.out; first | omega | exact Nat.le_refl _⟩, ⟨by repeat (first | (with_reducible first | exact HB.out | apply below_alloc | apply pw_below_drewN | apply below_drew1) | exact HB.out)⟩⟩
              · rw [if_neg c23] at H
                have c23b0 : decide (1 < (wrap64 (t183 - t179))) = false := decide_eq_false c23
                clear c23
                (first | rw [c23b0] | (simp only [i64_w, i32_w]; rw [c23b0]) | skip)
                by_cases c24 : t178 = 0
                · rw [if_pos c24] at H
                  exact absurd H (by simp)
                · rw [if_neg c24] at H
                  have c24b0 : (t178 == 0) = false := beq_eq_false_iff_ne.mpr c24
                  have c24b1 : (t178 != 0) = true := bne_iff_ne.mpr c24
                  by_cases c25 : ((t179 == t183) != ((Int.tmod t177 t178) == 0)) = true
                  · rw [if_pos c25] at H
                    have c25b0 : ((t179 == t183) != ((Int.tmod t177 t178) == 0)) = true := c25
                    (try (have c25b1 : decide ((t179 == t183) = ((Int.tmod t177 t178) == 0)) = false := by simpa using c25))
                    (try (have c25b2 : ((t179 == t183) == ((Int.tmod t177 t178) == 0)) = false := by simpa using c25))
                    (try (have c25b3 : ¬ ((t179 == t183) = ((Int.tmod t177 t178) == 0)) := by simpa using c25))
                    clear c25
                    have H' := Aside0.mk H
                    clear H
                    go_wp2
                    go_meet
                    case rel => exact ⟨_, (true), (by first | rfl | (simp; done) | (simp [*]; done)), H', ⟨by have := HJ10.out; first | omega | exact Nat.le_refl _⟩, ⟨by repeat (first | (with_reducible first | exact HB.out | apply below_alloc | apply pw_below_drewN | apply below_drew1) | exact HB.out)⟩⟩
                  · rw [if_neg c25] at H
                    have c25b0 : ((t179 == t183) != ((Int.tmod t177 t178) == 0)) = false := by simpa using c25
                    (try (have c25b1 : decide ((t179 == t183) = ((Int.tmod t177 t178) == 0)) = true := by simpa using c25))
                    (try (have c25b2 : ((t179 == t183) == ((Int.tmod t177 t178) == 0)) = true := by simpa using c25))
                    clear c25
                    by_cases c26 : t187 = t179
                    · rw [if_pos c26] at H
                      have c26b0 : (t187 == t179) = true := beq_iff_eq.mpr c26
                      have c26b1 : (t187 != t179) = false := bne_eq_false_iff_eq.mpr c26
                      clear c26
                      have H' := Aside0.mk H
                      clear H
                      go_wp2
                      go_meet
                      case rel => exact ⟨_, (false), (by first | rfl | (simp; done) | (simp [*]; done)), H', ⟨by have := HJ10.out; first | omega | exact Nat.le_refl _⟩, ⟨by repeat (first | (with_reducible first | exact HB.out | apply below_alloc | apply pw_below_drewN | apply below_drew1) | exact HB.out)⟩⟩
                    · rw [if_neg c26] at H
                      have c26b0 : (t187 == t179) = false := beq_eq_false_iff_ne.mpr c26
                      have c26b1 : (t187 != t179) = true := bne_iff_ne.mpr c26
                      have H' := Aside0.mk H
                      clear H
                      go_wp2
                      go_meet
                      case rel => exact ⟨_, ((t187 != t183)), (by first | rfl | (simp; done) | (simp [*]; done)), H', ⟨by have := HJ10.out; first | omega | exact Nat.le_refl _⟩, ⟨by repeat (first | (with_reducible first | exact HB.out | apply below_alloc | apply pw_below_drewN | apply below_drew1) | exact HB.out)⟩⟩
            case rest =>
              clear HC22
              try clear c1
              try clear c2
              try clear p2
              try clear c3
              try clear c5
              try clear p6
              try clear c9
              try clear c13
              try clear c13b0
              try clear c13b1
              try clear c14
              try clear c14b0
              try clear c14b1
              try clear c15
              try clear c15b0
              try clear c15b1
              try clear c16
              try clear c16b0
              try clear c16b1
              try clear c17
              try clear c17b0
              try clear c17b1
              try clear c18
              try clear c18b0
              try clear c18b1
              try clear c19
              try clear c19b0
              try clear c19b1
              try clear c20
              try clear c21
              try clear c21b0
              try clear c21b1
              try clear c23
              try clear c23b0
              try clear c24
              try clear c24b0
              try clear c24b1
              try clear c25
              try clear c25b0
              try clear c25b1
              try clear c25b2
              try clear c26
              try clear c26b0
              try clear c26b1
              try clear p2
              obtain ⟨kq, x123_21, rfl, HA, HJ21, HB⟩ := hcut
              cases kq with
              | zero => exact absurd HA.out (by simp [laws_FnFractions.j1])
              | succ kj21 =>
                have H := HA.out
                clear HA
                simp only [laws_FnFractions.j1] at H
                by_cases c27 : x123_21 = true
                · subst c27
                  have H1 : (some false) = some r := by rw [if_pos rfl] at H; exact H
                  clear H
                  have H := H1
                  clear H1
                  obtain rfl := Option.some.inj H
                  go_wp2
                  go_ret
                  exact ⟨by first | rfl | (simp [errW_none, errW_some] <;> rfl) | (simp [*, errW_none, errW_some] <;> rfl), by repeat (first | (with_reducible first | exact HB.out | apply below_alloc | apply pw_below_drewN | apply below_drew1) | exact HB.out)⟩
                · replace c27 := Bool.eq_false_iff.mpr c27
                  subst c27
                  have H1 : (if t178 < 0 then (if (wrap64 (t179 * (wrap64 (-t178)))) ≤ (wrap64 (-t177)) then (if (wrap64 (-t177)) ≤ (wrap64 (t183 * (wrap64 (-t178)))) then (if (wrap64 (2 * (wrap64 ((wrap64 (t187 * (wrap64 (-t178)))) - (wrap64 (-t177)))))) ≤ (wrap64 (-t178)) then (some (decide ((wrap64 (2 * (wrap64 ((wrap64 (-t177)) - (wrap64 (t187 * (wrap64 (-t178)))))))) < (wrap64 (-t178))))) else (some false)) else (some false)) else (some false)) else (if (wrap64 (t179 * t178)) ≤ t177 then (if t177 ≤ (wrap64 (t183 * t178)) then (if (wrap64 (2 * (wrap64 ((wrap64 (t187 * t178)) - t177)))) ≤ t178 then (some (decide ((wrap64 (2 * (wrap64 (t177 - (wrap64 (t187 * t178)))))) < t178))) else (some false)) else (some false)) else (some false))) = some r := by rw [if_neg (show ¬ (false = true) by decide)] at H; exact H
                  clear H
                  have H := H1
                  clear H1
                  by_cases c28 : t178 < 0
                  · rw [if_pos c28] at H
                    have c28b0 : decide (t178 < 0) = true := decide_eq_true c28
                    clear c28
                    by_cases c29 : (wrap64 (t179 * (wrap64 (-t178)))) ≤ (wrap64 (-t177))
                    · rw [if_pos c29] at H
                      have c29b0 : decide ((wrap64 (t179 * (wrap64 (-t178)))) ≤ (wrap64 (-t177))) = true := decide_eq_true c29
                      clear c29
                      by_cases c30 : (wrap64 (-t177)) ≤ (wrap64 (t183 * (wrap64 (-t178))))
                      · rw [if_pos c30] at H
                        have c30b0 : decide ((wrap64 (-t177)) ≤ (wrap64 (t183 * (wrap64 (-t178))))) = true := decide_eq_true c30
                        clear c30
                        by_cases c31 : (wrap64 (2 * (wrap64 ((wrap64 (t187 * (wrap64 (-t178)))) - (wrap64 (-t177)))))) ≤ (wrap64 (-t178))
                        · rw [if_pos c31] at H
                          have c31b0 : decide ((wrap64 (2 * (wrap64 ((wrap64 (t187 * (wrap64 (-t178)))) - (wrap64 (-t177)))))) ≤ (wrap64 (-t178))) = true := decide_eq_true c31
                          clear c31
                          obtain rfl := Option.some.inj H
                          go_wp2
                          go_ret
                          exact ⟨by first | rfl | (simp [errW_none, errW_some] <;> rfl) | (simp [*, errW_none, errW_some] <;> rfl), by repeat (first | (with_reducible first | exact HB.out | apply below_alloc | apply pw_below_drewN | apply below_drew1) | exact HB.out)⟩
                        · rw [if_neg c31] at H
                          have c31b0 : decide ((wrap64 (2 * (wrap64 ((wrap64 (t187 * (wrap64 (-t178)))) - (wrap64 (-t177)))))) ≤ (wrap64 (-t178))) = false := decide_eq_false c31
                          clear c31
                          obtain rfl := Option.some.inj H
                          go_wp2
                          go_ret
                          exact ⟨by first | rfl | (simp [errW_none, errW_some] <;> rfl) | (simp [*, errW_none, errW_some] <;> rfl), by repeat (first | (with_reducible first | exact HB.out | apply below_alloc | apply pw_below_drewN | apply below_drew1) | exact HB.out)⟩
                      · rw [if_neg c30] at H
                        have c30b0 : decide ((wrap64 (-t177)) ≤ (wrap64 (t183 * (wrap64 (-t178))))) = false := decide_eq_false c30
                        clear c30
                        obtain rfl := Option.some.inj H
                        go_wp2
                        go_ret
                        exact ⟨by first | rfl | (simp [errW_none, errW_some] <;> rfl) | (simp [*, errW_none, errW_some] <;> rfl), by repeat (first | (with_reducible first | exact HB.out | apply below_alloc | apply pw_below_drewN | apply below_drew1) | exact HB.out)⟩
                    · rw [if_neg c29] at H
                      have c29b0 : decide ((wrap64 (t179 * (wrap64 (-t178)))) ≤ (wrap64 (-t177))) = false := decide_eq_false c29
                      clear c29
                      obtain rfl := Option.some.inj H
                      go_wp2
                      go_ret
                      exact ⟨by first | rfl | (simp [errW_none, errW_some] <;> rfl) | (simp [*, errW_none, errW_some] <;> rfl), by repeat (first | (with_reducible first | exact HB.out | apply below_alloc | apply pw_below_drewN | apply below_drew1) | exact HB.out)⟩
                  · rw [if_neg c28] at H
                    have c28b0 : decide (t178 < 0) = false := decide_eq_false c28
                    clear c28
                    by_cases c32 : (wrap64 (t179 * t178)) ≤ t177
                    · rw [if_pos c32] at H
                      have c32b0 : decide ((wrap64 (t179 * t178)) ≤ t177) = true := decide_eq_true c32
                      clear c32
                      by_cases c33 : t177 ≤ (wrap64 (t183 * t178))
                      · rw [if_pos c33] at H
                        have c33b0 : decide (t177 ≤ (wrap64 (t183 * t178))) = true := decide_eq_true c33
                        clear c33
                        by_cases c34 : (wrap64 (2 * (wrap64 ((wrap64 (t187 * t178)) - t177)))) ≤ t178
                        · rw [if_pos c34] at H
                          have c34b0 : decide ((wrap64 (2 * (wrap64 ((wrap64 (t187 * t178)) - t177)))) ≤ t178) = true := decide_eq_true c34
                          clear c34
                          obtain rfl := Option.some.inj H
                          go_wp2
                          go_ret
                          exact ⟨by first | rfl | (simp [errW_none, errW_some] <;> rfl) | (simp [*, errW_none, errW_some] <;> rfl), by repeat (first | (with_reducible first | exact HB.out | apply below_alloc | apply pw_below_drewN | apply below_drew1) | exact HB.out)⟩
                        · rw [if_neg c34] at H
                          have c34b0 : decide ((wrap64 (2 * (wrap64 ((wrap64 (t187 * t178)) - t177)))) ≤ t178) = false := decide_eq_false c34
                          clear c34
                          obtain rfl := Option.some.inj H
                          go_wp2
                          go_ret
                          exact ⟨by first | rfl | (simp [errW_none, errW_some] <;> rfl) | (simp [*, errW_none, errW_some] <;> rfl), by repeat (first | (with_reducible first | exact HB.out | apply below_alloc | apply pw_below_drewN | apply below_drew1) | exact HB.out)⟩
                      · rw [if_neg c33] at H
                        have c33b0 : decide (t177 ≤ (wrap64 (t183 * t178))) = false := decide_eq_false c33
                        clear c33
                        obtain rfl := Option.some.inj H
                        go_wp2
                        go_ret
                        exact ⟨by first | rfl | (simp [errW_none, errW_some] <;> rfl) | (simp [*, errW_none, errW_some] <;> rfl), by repeat (first | (with_reducible first | exact HB.out | apply below_alloc | apply pw_below_drewN | apply below_drew1) | exact HB.out)⟩
                    · rw [if_neg c32] at H
                      have c32b0 : decide ((wrap64 (t179 * t178)) ≤ t177) = false := decide_eq_false c32
                      clear c32
                      obtain rfl := Option.some.inj H
                      go_wp2
                      go_ret
                      exact ⟨by first | rfl | (simp [errW_none, errW_some] <;> rfl) | (simp [*, errW_none, errW_some] <;> rfl), by repeat (first | (with_reducible first | exact HB.out | apply below_alloc | apply pw_below_drewN | apply below_drew1) | exact HB.out)⟩
          · rw [if_neg c21] at H
            have c21b0 : (t180 == 0) = false := beq_eq_false_iff_ne.mpr c21
            have c21b1 : (t180 != 0) = true := bne_iff_ne.mpr c21
            obtain rfl := Option.some.inj H
            go_wp2
            go_ret
            exact ⟨by first | rfl | (simp [errW_none, errW_some] <;> rfl) | (simp [*, errW_none, errW_some] <;> rfl), by repeat (first | (with_reducible first | exact HB.out | apply below_alloc | apply pw_below_drewN | apply below_drew1) | exact HB.out)⟩

/-- THE ONE PURE STATEMENT of laws_FnFractions: yours. -/
def laws_FnFractions.Pure : Prop := ∀ (l0 : List Int), l0.length ≤ maxLen → l0.length * 1 ≤ 140737488351232 → (∀ x ∈ l0, (Lit.int .u8 x).wf = true) → ∃ k, laws_FnFractions.f k l0 = some true
theorem laws_FnFractions.walk (P : laws_FnFractions.Pure) (a0 : Option Addr) (len0 cap0 : Nat) (z0 : List Int) (w : World) (w0 : (a0 = none ∧ len0 = 0 ∧ cap0 = 0 ∧ z0 = []) ∨ ∃ x, a0 = some x ∧ len0 ≤ cap0 ∧ cap0 ≤ maxLen ∧ z0.length = cap0 ∧ (∀ i, i < z0.length → w.cell? (x.add i) = some (.int .u8 (z0.getD i 0))) ∧ ∀ n ∈ z0, (Lit.int .u8 n).wf = true) (y0 : len0 * 1 ≤ 140737488351232) :
    Calls Try.prog 5 #[.slice a0 len0 cap0] w fun e w' => e = .returned (.bool true) ∧ Below w.heap.size w w' := by
  obtain ⟨l0, rfl, hr0, hm0, hw0, hc0⟩ := ReadsInt.ofRowC w0
  obtain ⟨k, h⟩ := P l0 hm0 y0 hw0
  refine (laws_FnFractions.calls k _ _ l0 true w (Kd.C_of_reads (d := (0 : Int)) (h1 := fun _ => rfl) hr0) hc0 h).mono ?_
  rintro e w' ⟨rfl, hd⟩
  exact ⟨rfl, hd⟩

end Go.Proofs.Ytcnaocjhfgnphaa.PFnFractions
