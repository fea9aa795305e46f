-- The machine's side of the law FnMonths: functions and their walks, made by q.py out of the kit's own print.
import Derived.Test.YtndjeclnadpifaaDoorQFnMonthsx0
import Derived.Test.YtndjeclnadpifaaDoorQFnMonthsx1
import Derived.Test.YtndjeclnadpifaaDoorQFnMonthsx2
import Derived.Test.YtndjeclnadpifaaDoorQFnMonthsx3
import Derived.Test.YtndjeclnadpifaaDoorQFnMonthsx4
import Derived.Test.YtndjeclnadpifaaDoorQFnMonthsx5
import Derived.Test.YtndjeclnadpifaaDoorQFnMonthsx6
import Derived.Test.YtndjeclnadpifaaDoorQFnMonthsx7
import Derived.Test.YtndjeclnadpifaaDoorQFnMonthsx10
namespace Go.Proofs.YtndjeclnadpifaaDoor.PFnMonths
open Go.RowKit Go.Proofs.YtndjeclnadpifaaDoorW.PrintWords Go.Proofs.YtndjeclnadpifaaDoorW.PrintLast Go.Proofs.YtndjeclnadpifaaDoorW.PrintMore
attribute [local go_sem] max2_int min2_int max_two min_two max_three min_three max_four min_four   -- for this text's walks alone
set_option linter.unusedVariables false
set_option linter.unusedSimpArgs false

attribute [local go_sem high] eqA27
/-! ### laws_FnMonths: function 3 -/
mutual
def laws_FnMonths.j0 : Nat → Int → Int → Int → Int → Int → ByteArray → Int → Bool → Int → Int → Int → Int → Int → Int → Option (Bool)
  | 0, _, _, _, _, _, _, _, _, _, _, _, _, _, _ => none
  | k + 1, x3, x4, x5, x6, x8, x18, x19, x136, x371000, x371001, x371002, x386000, x386001, x386002 => if x136 = true then (some false) else (if x19 = 0 then ((impl_ReadDate.f k x18).bind fun bt401 => (if bt401.2.2.2 = 0 then (if (!(bt401.1 == x386000) || (!(bt401.2.1 == x386001) || (!(bt401.2.2.1 == x386002)))) = true then (some false) else (laws_FnMonths.j1 k x3 x4 x5 x6 x8 x371000 x371001 x371002)) else (some false))) else (laws_FnMonths.j1 k x3 x4 x5 x6 x8 x371000 x371001 x371002))
def laws_FnMonths.j1 : Nat → Int → Int → Int → Int → Int → Int → Int → Int → Option (Bool)
  | 0, _, _, _, _, _, _, _, _ => none
  | k + 1, x3, x4, x5, x6, x8, x371000, x371001, x371002 => if x8 = 0 then ((impl_WeekdayOf.f k x371000 x371001 x371002).bind fun bt406 => ((impl_DaysInMonth.f k x3 x4).bind fun bt408 => (if bt406.2 = 0 then (if bt406.1 = x5 then (if bt408.2 = 0 then (if x6 = 0 then (if x371002 > (wrap64 (bt408.1 - 7)) then (some true) else (if x6 > 0 then (some ((wrap64 (Int.tdiv (wrap64 (x371002 - 1)) 7)) == (wrap64 (x6 - 1)))) else (some false))) else (if x6 > 0 then (some ((wrap64 (Int.tdiv (wrap64 (x371002 - 1)) 7)) == (wrap64 (x6 - 1)))) else (some false))) else (some false)) else (some false)) else (some false)))) else (some true)
end
def laws_FnMonths.f (k : Nat) (l0 : List Int) : Option (Bool) := (laws_big.f l0).bind fun t361 => (if t361 = true then (some true) else ((spec_DrawNthWeekday.f k l0).bind fun bt362 => ((impl_NthWeekday.f k bt362.1 bt362.2.1 bt362.2.2.1 bt362.2.2.2).bind fun bt366 => ((spec_NthWeekday.f k bt362.1 bt362.2.1 bt362.2.2.1 bt362.2.2.2).bind fun bt371 => ((spec_DrawDaysInMonth.f k l0).bind fun bt376 => ((impl_DaysInMonth.f k bt376.1 bt376.2).bind fun bt378 => ((spec_DaysInMonth.f bt376.1 bt376.2).bind fun bt380 => ((spec_DrawDateText.f k l0).bind fun bt382 => ((impl_DateText.f k bt382.1 bt382.2.1 bt382.2.2).bind fun bt386 => ((spec_DateText.f k bt382.1 bt382.2.1 bt382.2.2).bind fun bt388 => ((spec_DrawReadDate.f k l0).bind fun t390 => ((impl_ReadDate.f k t390).bind fun bt391 => ((spec_ReadDate.f k t390).bind fun bt396 => (if bt366.2.2.2 = bt371.2.2.2 then (if (!(bt366.1 == bt371.1) || (!(bt366.2.1 == bt371.2.1) || (!(bt366.2.2.1 == bt371.2.2.1)))) = true then (laws_FnMonths.j0 k bt362.1 bt362.2.1 bt362.2.2.1 bt362.2.2.2 bt366.2.2.2 bt386.1 bt386.2 true bt366.1 bt366.2.1 bt366.2.2.1 bt382.1 bt382.2.1 bt382.2.2) else (if bt378.2 = bt380.2 then (if bt378.1 = bt380.1 then (if bt386.2 = bt388.2 then (if bt386.1.toList = bt388.1.toList then (if bt391.2.2.2 = bt396.2.2.2 then (laws_FnMonths.j0 k bt362.1 bt362.2.1 bt362.2.2.1 bt362.2.2.2 bt366.2.2.2 bt386.1 bt386.2 (!(bt391.1 == bt396.1) || (!(bt391.2.1 == bt396.2.1) || (!(bt391.2.2.1 == bt396.2.2.1)))) bt366.1 bt366.2.1 bt366.2.2.1 bt382.1 bt382.2.1 bt382.2.2) else (laws_FnMonths.j0 k bt362.1 bt362.2.1 bt362.2.2.1 bt362.2.2.2 bt366.2.2.2 bt386.1 bt386.2 true bt366.1 bt366.2.1 bt366.2.2.1 bt382.1 bt382.2.1 bt382.2.2)) else (laws_FnMonths.j0 k bt362.1 bt362.2.1 bt362.2.2.1 bt362.2.2.2 bt366.2.2.2 bt386.1 bt386.2 true bt366.1 bt366.2.1 bt366.2.2.1 bt382.1 bt382.2.1 bt382.2.2)) else (laws_FnMonths.j0 k bt362.1 bt362.2.1 bt362.2.2.1 bt362.2.2.2 bt366.2.2.2 bt386.1 bt386.2 true bt366.1 bt366.2.1 bt366.2.2.1 bt382.1 bt382.2.1 bt382.2.2)) else (laws_FnMonths.j0 k bt362.1 bt362.2.1 bt362.2.2.1 bt362.2.2.2 bt366.2.2.2 bt386.1 bt386.2 true bt366.1 bt366.2.1 bt366.2.2.1 bt382.1 bt382.2.1 bt382.2.2)) else (laws_FnMonths.j0 k bt362.1 bt362.2.1 bt362.2.2.1 bt362.2.2.2 bt366.2.2.2 bt386.1 bt386.2 true bt366.1 bt366.2.1 bt366.2.2.1 bt382.1 bt382.2.1 bt382.2.2))) else (laws_FnMonths.j0 k bt362.1 bt362.2.1 bt362.2.2.1 bt362.2.2.2 bt366.2.2.2 bt386.1 bt386.2 true bt366.1 bt366.2.1 bt366.2.2.1 bt382.1 bt382.2.1 bt382.2.2)))))))))))))))
theorem laws_FnMonths.mono_l : ∀ k, (∀ y0 y1 y2 y3 y4 y5 y6 y7 y8 y9 y10 y11 y12 y13, LeO (laws_FnMonths.j0 k y0 y1 y2 y3 y4 y5 y6 y7 y8 y9 y10 y11 y12 y13) (laws_FnMonths.j0 (k + 1) y0 y1 y2 y3 y4 y5 y6 y7 y8 y9 y10 y11 y12 y13)) ∧ (∀ y0 y1 y2 y3 y4 y5 y6 y7, LeO (laws_FnMonths.j1 k y0 y1 y2 y3 y4 y5 y6 y7) (laws_FnMonths.j1 (k + 1) y0 y1 y2 y3 y4 y5 y6 y7))
  | 0 => ⟨fun _ _ _ _ _ _ _ _ _ _ _ _ _ _ r h => by simp [laws_FnMonths.j0] at h, fun _ _ _ _ _ _ _ _ r h => by simp [laws_FnMonths.j1] at h⟩
  | k + 1 => by
    obtain ⟨ih0, ih1⟩ := laws_FnMonths.mono_l k
    refine ⟨?_, ?_⟩
    · intro y0 y1 y2 y3 y4 y5 y6 y7 y8 y9 y10 y11 y12 y13
      unfold laws_FnMonths.j0
      repeat' first
      | (with_reducible exact ih0 _ _ _ _ _ _ _ _ _ _ _ _ _ _)
      | (with_reducible exact ih1 _ _ _ _ _ _ _ _)
      | (with_reducible exact impl_DateText.mono _ _ _ _)
      | (with_reducible exact impl_DaysInMonth.mono _ _ _)
      | (with_reducible exact impl_NthWeekday.mono _ _ _ _ _)
      | (with_reducible exact impl_ReadDate.mono _ _)
      | (with_reducible exact impl_WeekdayOf.mono _ _ _ _)
      | (with_reducible exact spec_DateText.mono _ _ _ _)
      | (with_reducible exact spec_DrawDateText.mono _ _)
      | (with_reducible exact spec_DrawDaysInMonth.mono _ _)
      | (with_reducible exact spec_DrawNthWeekday.mono _ _)
      | (with_reducible exact spec_DrawReadDate.mono _ _)
      | (with_reducible exact spec_NthWeekday.mono _ _ _ _ _)
      | (with_reducible exact spec_ReadDate.mono _ _)
      | (with_reducible exact LeO.refl _)
      | (with_reducible exact LeO.none _)
      | (with_reducible refine LeO.ite ?_ ?_)
      | (with_reducible refine LeO.bind ?_ (fun _ => ?_))
      | exact ih0 _ _ _ _ _ _ _ _ _ _ _ _ _ _
      | exact ih1 _ _ _ _ _ _ _ _
      | exact impl_DateText.mono _ _ _ _
      | exact impl_DaysInMonth.mono _ _ _
      | exact impl_NthWeekday.mono _ _ _ _ _
      | exact impl_ReadDate.mono _ _
      | exact impl_WeekdayOf.mono _ _ _ _
      | exact spec_DateText.mono _ _ _ _
      | exact spec_DrawDateText.mono _ _
      | exact spec_DrawDaysInMonth.mono _ _
      | exact spec_DrawNthWeekday.mono _ _
      | exact spec_DrawReadDate.mono _ _
      | exact spec_NthWeekday.mono _ _ _ _ _
      | exact spec_ReadDate.mono _ _
      | exact LeO.none _
      | refine LeO.ite ?_ ?_
      | refine LeO.bind ?_ (fun _ => ?_)
    · intro y0 y1 y2 y3 y4 y5 y6 y7
      unfold laws_FnMonths.j1
      repeat' first
      | (with_reducible exact ih0 _ _ _ _ _ _ _ _ _ _ _ _ _ _)
      | (with_reducible exact ih1 _ _ _ _ _ _ _ _)
      | (with_reducible exact impl_DateText.mono _ _ _ _)
      | (with_reducible exact impl_DaysInMonth.mono _ _ _)
      | (with_reducible exact impl_NthWeekday.mono _ _ _ _ _)
      | (with_reducible exact impl_ReadDate.mono _ _)
      | (with_reducible exact impl_WeekdayOf.mono _ _ _ _)
      | (with_reducible exact spec_DateText.mono _ _ _ _)
      | (with_reducible exact spec_DrawDateText.mono _ _)
      | (with_reducible exact spec_DrawDaysInMonth.mono _ _)
      | (with_reducible exact spec_DrawNthWeekday.mono _ _)
      | (with_reducible exact spec_DrawReadDate.mono _ _)
      | (with_reducible exact spec_NthWeekday.mono _ _ _ _ _)
      | (with_reducible exact spec_ReadDate.mono _ _)
      | (with_reducible exact LeO.refl _)
      | (with_reducible exact LeO.none _)
      | (with_reducible refine LeO.ite ?_ ?_)
      | (with_reducible refine LeO.bind ?_ (fun _ => ?_))
      | exact ih0 _ _ _ _ _ _ _ _ _ _ _ _ _ _
      | exact ih1 _ _ _ _ _ _ _ _
      | exact impl_DateText.mono _ _ _ _
      | exact impl_DaysInMonth.mono _ _ _
      | exact impl_NthWeekday.mono _ _ _ _ _
      | exact impl_ReadDate.mono _ _
      | exact impl_WeekdayOf.mono _ _ _ _
      | exact spec_DateText.mono _ _ _ _
      | exact spec_DrawDateText.mono _ _
      | exact spec_DrawDaysInMonth.mono _ _
      | exact spec_DrawNthWeekday.mono _ _
      | exact spec_DrawReadDate.mono _ _
      | exact spec_NthWeekday.mono _ _ _ _ _
      | exact spec_ReadDate.mono _ _
      | exact LeO.none _
      | refine LeO.ite ?_ ?_
      | refine LeO.bind ?_ (fun _ => ?_)
theorem laws_FnMonths.mono : ∀ a0 k, LeO (laws_FnMonths.f k a0) (laws_FnMonths.f (k + 1) a0) := by
  intro a0 k
  obtain ⟨ih0, ih1⟩ := laws_FnMonths.mono_l k
  unfold laws_FnMonths.f
  repeat' first
      | (with_reducible exact ih0 _ _ _ _ _ _ _ _ _ _ _ _ _ _)
      | (with_reducible exact ih1 _ _ _ _ _ _ _ _)
      | (with_reducible exact impl_DateText.mono _ _ _ _)
      | (with_reducible exact impl_DaysInMonth.mono _ _ _)
      | (with_reducible exact impl_NthWeekday.mono _ _ _ _ _)
      | (with_reducible exact impl_ReadDate.mono _ _)
      | (with_reducible exact impl_WeekdayOf.mono _ _ _ _)
      | (with_reducible exact spec_DateText.mono _ _ _ _)
      | (with_reducible exact spec_DrawDateText.mono _ _)
      | (with_reducible exact spec_DrawDaysInMonth.mono _ _)
      | (with_reducible exact spec_DrawNthWeekday.mono _ _)
      | (with_reducible exact spec_DrawReadDate.mono _ _)
      | (with_reducible exact spec_NthWeekday.mono _ _ _ _ _)
      | (with_reducible exact spec_ReadDate.mono _ _)
      | (with_reducible exact LeO.refl _)
      | (with_reducible exact LeO.none _)
      | (with_reducible refine LeO.ite ?_ ?_)
      | (with_reducible refine LeO.bind ?_ (fun _ => ?_))
      | exact ih0 _ _ _ _ _ _ _ _ _ _ _ _ _ _
      | exact ih1 _ _ _ _ _ _ _ _
      | exact impl_DateText.mono _ _ _ _
      | exact impl_DaysInMonth.mono _ _ _
      | exact impl_NthWeekday.mono _ _ _ _ _
      | exact impl_ReadDate.mono _ _
      | exact impl_WeekdayOf.mono _ _ _ _
      | exact spec_DateText.mono _ _ _ _
      | exact spec_DrawDateText.mono _ _
      | exact spec_DrawDaysInMonth.mono _ _
      | exact spec_DrawNthWeekday.mono _ _
      | exact spec_DrawReadDate.mono _ _
      | exact spec_NthWeekday.mono _ _ _ _ _
      | exact spec_ReadDate.mono _ _
      | exact LeO.none _
      | refine LeO.ite ?_ ?_
      | refine LeO.bind ?_ (fun _ => ?_)
set_option maxHeartbeats 8000000 in
set_option maxRecDepth 100000 in
theorem laws_FnMonths.calls (k : Nat) (A0 : Option Addr) (c0 : Nat) (l0 : List Int) (r : Bool) (w : World) (hr0 : Kd.C (Kd.int .u8) w A0 l0.length l0) (hc0 : l0.length ≤ c0) (h : laws_FnMonths.f k l0 = some r) (hT : Aside0 (TabAt w)) :
    Calls Tryd.prog 3 #[.slice A0 l0.length c0] w fun e w' => e = .returned (.bool r) ∧ Below w.heap.size w w' := by
  have hu27 := Tryd.underlying27
  have HR0 := Aside0.mk hr0
  have HC0 := Aside0.mk hc0
  clear hr0 hc0
  have HB := Aside0.mk (Below.refl w.heap.size w)
  have H : ((laws_big.f l0).bind fun t361 => (if t361 = true then (some true) else ((spec_DrawNthWeekday.f k l0).bind fun bt362 => ((impl_NthWeekday.f k bt362.1 bt362.2.1 bt362.2.2.1 bt362.2.2.2).bind fun bt366 => ((spec_NthWeekday.f k bt362.1 bt362.2.1 bt362.2.2.1 bt362.2.2.2).bind fun bt371 => ((spec_DrawDaysInMonth.f k l0).bind fun bt376 => ((impl_DaysInMonth.f k bt376.1 bt376.2).bind fun bt378 => ((spec_DaysInMonth.f bt376.1 bt376.2).bind fun bt380 => ((spec_DrawDateText.f k l0).bind fun bt382 => ((impl_DateText.f k bt382.1 bt382.2.1 bt382.2.2).bind fun bt386 => ((spec_DateText.f k bt382.1 bt382.2.1 bt382.2.2).bind fun bt388 => ((spec_DrawReadDate.f k l0).bind fun t390 => ((impl_ReadDate.f k t390).bind fun bt391 => ((spec_ReadDate.f k t390).bind fun bt396 => (if bt366.2.2.2 = bt371.2.2.2 then (if (!(bt366.1 == bt371.1) || (!(bt366.2.1 == bt371.2.1) || (!(bt366.2.2.1 == bt371.2.2.1)))) = true then (laws_FnMonths.j0 k bt362.1 bt362.2.1 bt362.2.2.1 bt362.2.2.2 bt366.2.2.2 bt386.1 bt386.2 true bt366.1 bt366.2.1 bt366.2.2.1 bt382.1 bt382.2.1 bt382.2.2) else (if bt378.2 = bt380.2 then (if bt378.1 = bt380.1 then (if bt386.2 = bt388.2 then (if bt386.1.toList = bt388.1.toList then (if bt391.2.2.2 = bt396.2.2.2 then (laws_FnMonths.j0 k bt362.1 bt362.2.1 bt362.2.2.1 bt362.2.2.2 bt366.2.2.2 bt386.1 bt386.2 (!(bt391.1 == bt396.1) || (!(bt391.2.1 == bt396.2.1) || (!(bt391.2.2.1 == bt396.2.2.1)))) bt366.1 bt366.2.1 bt366.2.2.1 bt382.1 bt382.2.1 bt382.2.2) else (laws_FnMonths.j0 k bt362.1 bt362.2.1 bt362.2.2.1 bt362.2.2.2 bt366.2.2.2 bt386.1 bt386.2 true bt366.1 bt366.2.1 bt366.2.2.1 bt382.1 bt382.2.1 bt382.2.2)) else (laws_FnMonths.j0 k bt362.1 bt362.2.1 bt362.2.2.1 bt362.2.2.2 bt366.2.2.2 bt386.1 bt386.2 true bt366.1 bt366.2.1 bt366.2.2.1 bt382.1 bt382.2.1 bt382.2.2)) else (laws_FnMonths.j0 k bt362.1 bt362.2.1 bt362.2.2.1 bt362.2.2.2 bt366.2.2.2 bt386.1 bt386.2 true bt366.1 bt366.2.1 bt366.2.2.1 bt382.1 bt382.2.1 bt382.2.2)) else (laws_FnMonths.j0 k bt362.1 bt362.2.1 bt362.2.2.1 bt362.2.2.2 bt366.2.2.2 bt386.1 bt386.2 true bt366.1 bt366.2.1 bt366.2.2.1 bt382.1 bt382.2.1 bt382.2.2)) else (laws_FnMonths.j0 k bt362.1 bt362.2.1 bt362.2.2.1 bt362.2.2.2 bt366.2.2.2 bt386.1 bt386.2 true bt366.1 bt366.2.1 bt366.2.2.1 bt382.1 bt382.2.1 bt382.2.2))) else (laws_FnMonths.j0 k bt362.1 bt362.2.1 bt362.2.2.1 bt362.2.2.2 bt366.2.2.2 bt386.1 bt386.2 true bt366.1 bt366.2.1 bt366.2.2.1 bt382.1 bt382.2.1 bt382.2.2)))))))))))))))) = some r := h
  clear h
  replace H := Option.bind_eq_some_iff.mp H
  obtain ⟨t361, A20, H⟩ := H
  replace H : (if t361 = true then (some true) else ((spec_DrawNthWeekday.f k l0).bind fun bt362 => ((impl_NthWeekday.f k bt362.1 bt362.2.1 bt362.2.2.1 bt362.2.2.2).bind fun bt366 => ((spec_NthWeekday.f k bt362.1 bt362.2.1 bt362.2.2.1 bt362.2.2.2).bind fun bt371 => ((spec_DrawDaysInMonth.f k l0).bind fun bt376 => ((impl_DaysInMonth.f k bt376.1 bt376.2).bind fun bt378 => ((spec_DaysInMonth.f bt376.1 bt376.2).bind fun bt380 => ((spec_DrawDateText.f k l0).bind fun bt382 => ((impl_DateText.f k bt382.1 bt382.2.1 bt382.2.2).bind fun bt386 => ((spec_DateText.f k bt382.1 bt382.2.1 bt382.2.2).bind fun bt388 => ((spec_DrawReadDate.f k l0).bind fun t390 => ((impl_ReadDate.f k t390).bind fun bt391 => ((spec_ReadDate.f k t390).bind fun bt396 => (if bt366.2.2.2 = bt371.2.2.2 then (if (!(bt366.1 == bt371.1) || (!(bt366.2.1 == bt371.2.1) || (!(bt366.2.2.1 == bt371.2.2.1)))) = true then (laws_FnMonths.j0 k bt362.1 bt362.2.1 bt362.2.2.1 bt362.2.2.2 bt366.2.2.2 bt386.1 bt386.2 true bt366.1 bt366.2.1 bt366.2.2.1 bt382.1 bt382.2.1 bt382.2.2) else (if bt378.2 = bt380.2 then (if bt378.1 = bt380.1 then (if bt386.2 = bt388.2 then (if bt386.1.toList = bt388.1.toList then (if bt391.2.2.2 = bt396.2.2.2 then (laws_FnMonths.j0 k bt362.1 bt362.2.1 bt362.2.2.1 bt362.2.2.2 bt366.2.2.2 bt386.1 bt386.2 (!(bt391.1 == bt396.1) || (!(bt391.2.1 == bt396.2.1) || (!(bt391.2.2.1 == bt396.2.2.1)))) bt366.1 bt366.2.1 bt366.2.2.1 bt382.1 bt382.2.1 bt382.2.2) else (laws_FnMonths.j0 k bt362.1 bt362.2.1 bt362.2.2.1 bt362.2.2.2 bt366.2.2.2 bt386.1 bt386.2 true bt366.1 bt366.2.1 bt366.2.2.1 bt382.1 bt382.2.1 bt382.2.2)) else (laws_FnMonths.j0 k bt362.1 bt362.2.1 bt362.2.2.1 bt362.2.2.2 bt366.2.2.2 bt386.1 bt386.2 true bt366.1 bt366.2.1 bt366.2.2.1 bt382.1 bt382.2.1 bt382.2.2)) else (laws_FnMonths.j0 k bt362.1 bt362.2.1 bt362.2.2.1 bt362.2.2.2 bt366.2.2.2 bt386.1 bt386.2 true bt366.1 bt366.2.1 bt366.2.2.1 bt382.1 bt382.2.1 bt382.2.2)) else (laws_FnMonths.j0 k bt362.1 bt362.2.1 bt362.2.2.1 bt362.2.2.2 bt366.2.2.2 bt386.1 bt386.2 true bt366.1 bt366.2.1 bt366.2.2.1 bt382.1 bt382.2.1 bt382.2.2)) else (laws_FnMonths.j0 k bt362.1 bt362.2.1 bt362.2.2.1 bt362.2.2.2 bt366.2.2.2 bt386.1 bt386.2 true bt366.1 bt366.2.1 bt366.2.2.1 bt382.1 bt382.2.1 bt382.2.2))) else (laws_FnMonths.j0 k bt362.1 bt362.2.1 bt362.2.2.1 bt362.2.2.2 bt366.2.2.2 bt386.1 bt386.2 true bt366.1 bt366.2.1 bt366.2.2.1 bt382.1 bt382.2.1 bt382.2.2))))))))))))))) = some r := H
  have A2 := Aside0.mk A20
  clear A20
  by_cases c3 : t361 = true
  · subst c3
    have H1 : (some true) = some r := by rw [if_pos rfl] at H; exact H
    clear H
    have H := H1
    clear H1
    obtain rfl := Option.some.inj H
    go_enter Tryd.func3, Tryd.ntmps3
    go_wp2_with (first | ((with_reducible refine gate_callee (f := 6) rfl ?_); refine goesL_ (some 34) rfl rfl Tryd.func6 (by kernel_rfl) rfl #[.slice A0 l0.length c0] rfl (by (try simp only [List.map_toArray, List.map_cons, List.map_nil]); first | done | rfl | (simp only [List.length_drop, List.length_take]; rfl)) ?_; (with_reducible refine (laws_big.calls _ _ l0 true _ ?side1 ?side2 A2.out).mono ?_); (case side1 => repeat (first | exact HR0.out | (with_reducible refine Kd.C_alloc ?_ _) | (with_reducible refine Kd.C_drewN ?_ _) | (with_reducible refine Kd.C_drew ?_))); (case side2 => exact HC0.out); rintro e w' ⟨rfl, ⟨nd, rfl⟩⟩; refine ⟨_, rfl, ?_⟩))
    go_ret
    exact ⟨by first | rfl | (simp [errW_none, errW_some] <;> rfl) | (simp [*, errW_none, errW_some] <;> rfl), by repeat (first | (with_reducible first | exact HB.out | apply below_alloc | apply pw_below_drewN | apply below_drew1) | exact HB.out)⟩
  · replace c3 := Bool.eq_false_iff.mpr c3
    subst c3
    have H1 : ((spec_DrawNthWeekday.f k l0).bind fun bt362 => ((impl_NthWeekday.f k bt362.1 bt362.2.1 bt362.2.2.1 bt362.2.2.2).bind fun bt366 => ((spec_NthWeekday.f k bt362.1 bt362.2.1 bt362.2.2.1 bt362.2.2.2).bind fun bt371 => ((spec_DrawDaysInMonth.f k l0).bind fun bt376 => ((impl_DaysInMonth.f k bt376.1 bt376.2).bind fun bt378 => ((spec_DaysInMonth.f bt376.1 bt376.2).bind fun bt380 => ((spec_DrawDateText.f k l0).bind fun bt382 => ((impl_DateText.f k bt382.1 bt382.2.1 bt382.2.2).bind fun bt386 => ((spec_DateText.f k bt382.1 bt382.2.1 bt382.2.2).bind fun bt388 => ((spec_DrawReadDate.f k l0).bind fun t390 => ((impl_ReadDate.f k t390).bind fun bt391 => ((spec_ReadDate.f k t390).bind fun bt396 => (if bt366.2.2.2 = bt371.2.2.2 then (if (!(bt366.1 == bt371.1) || (!(bt366.2.1 == bt371.2.1) || (!(bt366.2.2.1 == bt371.2.2.1)))) = true then (laws_FnMonths.j0 k bt362.1 bt362.2.1 bt362.2.2.1 bt362.2.2.2 bt366.2.2.2 bt386.1 bt386.2 true bt366.1 bt366.2.1 bt366.2.2.1 bt382.1 bt382.2.1 bt382.2.2) else (if bt378.2 = bt380.2 then (if bt378.1 = bt380.1 then (if bt386.2 = bt388.2 then (if bt386.1.toList = bt388.1.toList then (if bt391.2.2.2 = bt396.2.2.2 then (laws_FnMonths.j0 k bt362.1 bt362.2.1 bt362.2.2.1 bt362.2.2.2 bt366.2.2.2 bt386.1 bt386.2 (!(bt391.1 == bt396.1) || (!(bt391.2.1 == bt396.2.1) || (!(bt391.2.2.1 == bt396.2.2.1)))) bt366.1 bt366.2.1 bt366.2.2.1 bt382.1 bt382.2.1 bt382.2.2) else (laws_FnMonths.j0 k bt362.1 bt362.2.1 bt362.2.2.1 bt362.2.2.2 bt366.2.2.2 bt386.1 bt386.2 true bt366.1 bt366.2.1 bt366.2.2.1 bt382.1 bt382.2.1 bt382.2.2)) else (laws_FnMonths.j0 k bt362.1 bt362.2.1 bt362.2.2.1 bt362.2.2.2 bt366.2.2.2 bt386.1 bt386.2 true bt366.1 bt366.2.1 bt366.2.2.1 bt382.1 bt382.2.1 bt382.2.2)) else (laws_FnMonths.j0 k bt362.1 bt362.2.1 bt362.2.2.1 bt362.2.2.2 bt366.2.2.2 bt386.1 bt386.2 true bt366.1 bt366.2.1 bt366.2.2.1 bt382.1 bt382.2.1 bt382.2.2)) else (laws_FnMonths.j0 k bt362.1 bt362.2.1 bt362.2.2.1 bt362.2.2.2 bt366.2.2.2 bt386.1 bt386.2 true bt366.1 bt366.2.1 bt366.2.2.1 bt382.1 bt382.2.1 bt382.2.2)) else (laws_FnMonths.j0 k bt362.1 bt362.2.1 bt362.2.2.1 bt362.2.2.2 bt366.2.2.2 bt386.1 bt386.2 true bt366.1 bt366.2.1 bt366.2.2.1 bt382.1 bt382.2.1 bt382.2.2))) else (laws_FnMonths.j0 k bt362.1 bt362.2.1 bt362.2.2.1 bt362.2.2.2 bt366.2.2.2 bt386.1 bt386.2 true bt366.1 bt366.2.1 bt366.2.2.1 bt382.1 bt382.2.1 bt382.2.2)))))))))))))) = some r := by rw [if_neg (show ¬ (false = true) by decide)] at H; exact H
    clear H
    have H := H1
    clear H1
    replace H := Option.bind_eq_some_iff.mp H
    obtain ⟨⟨t362, t363, t364, t365⟩, A40, H⟩ := H
    replace H : ((impl_NthWeekday.f k t362 t363 t364 t365).bind fun bt366 => ((spec_NthWeekday.f k t362 t363 t364 t365).bind fun bt371 => ((spec_DrawDaysInMonth.f k l0).bind fun bt376 => ((impl_DaysInMonth.f k bt376.1 bt376.2).bind fun bt378 => ((spec_DaysInMonth.f bt376.1 bt376.2).bind fun bt380 => ((spec_DrawDateText.f k l0).bind fun bt382 => ((impl_DateText.f k bt382.1 bt382.2.1 bt382.2.2).bind fun bt386 => ((spec_DateText.f k bt382.1 bt382.2.1 bt382.2.2).bind fun bt388 => ((spec_DrawReadDate.f k l0).bind fun t390 => ((impl_ReadDate.f k t390).bind fun bt391 => ((spec_ReadDate.f k t390).bind fun bt396 => (if bt366.2.2.2 = bt371.2.2.2 then (if (!(bt366.1 == bt371.1) || (!(bt366.2.1 == bt371.2.1) || (!(bt366.2.2.1 == bt371.2.2.1)))) = true then (laws_FnMonths.j0 k t362 t363 t364 t365 bt366.2.2.2 bt386.1 bt386.2 true bt366.1 bt366.2.1 bt366.2.2.1 bt382.1 bt382.2.1 bt382.2.2) else (if bt378.2 = bt380.2 then (if bt378.1 = bt380.1 then (if bt386.2 = bt388.2 then (if bt386.1.toList = bt388.1.toList then (if bt391.2.2.2 = bt396.2.2.2 then (laws_FnMonths.j0 k t362 t363 t364 t365 bt366.2.2.2 bt386.1 bt386.2 (!(bt391.1 == bt396.1) || (!(bt391.2.1 == bt396.2.1) || (!(bt391.2.2.1 == bt396.2.2.1)))) bt366.1 bt366.2.1 bt366.2.2.1 bt382.1 bt382.2.1 bt382.2.2) else (laws_FnMonths.j0 k t362 t363 t364 t365 bt366.2.2.2 bt386.1 bt386.2 true bt366.1 bt366.2.1 bt366.2.2.1 bt382.1 bt382.2.1 bt382.2.2)) else (laws_FnMonths.j0 k t362 t363 t364 t365 bt366.2.2.2 bt386.1 bt386.2 true bt366.1 bt366.2.1 bt366.2.2.1 bt382.1 bt382.2.1 bt382.2.2)) else (laws_FnMonths.j0 k t362 t363 t364 t365 bt366.2.2.2 bt386.1 bt386.2 true bt366.1 bt366.2.1 bt366.2.2.1 bt382.1 bt382.2.1 bt382.2.2)) else (laws_FnMonths.j0 k t362 t363 t364 t365 bt366.2.2.2 bt386.1 bt386.2 true bt366.1 bt366.2.1 bt366.2.2.1 bt382.1 bt382.2.1 bt382.2.2)) else (laws_FnMonths.j0 k t362 t363 t364 t365 bt366.2.2.2 bt386.1 bt386.2 true bt366.1 bt366.2.1 bt366.2.2.1 bt382.1 bt382.2.1 bt382.2.2))) else (laws_FnMonths.j0 k t362 t363 t364 t365 bt366.2.2.2 bt386.1 bt386.2 true bt366.1 bt366.2.1 bt366.2.2.1 bt382.1 bt382.2.1 bt382.2.2))))))))))))) = some r := H
    have A4 := Aside0.mk A40
    clear A40
    replace H := Option.bind_eq_some_iff.mp H
    obtain ⟨⟨t366, t367, t368, t369⟩, A50, H⟩ := H
    replace H : ((spec_NthWeekday.f k t362 t363 t364 t365).bind fun bt371 => ((spec_DrawDaysInMonth.f k l0).bind fun bt376 => ((impl_DaysInMonth.f k bt376.1 bt376.2).bind fun bt378 => ((spec_DaysInMonth.f bt376.1 bt376.2).bind fun bt380 => ((spec_DrawDateText.f k l0).bind fun bt382 => ((impl_DateText.f k bt382.1 bt382.2.1 bt382.2.2).bind fun bt386 => ((spec_DateText.f k bt382.1 bt382.2.1 bt382.2.2).bind fun bt388 => ((spec_DrawReadDate.f k l0).bind fun t390 => ((impl_ReadDate.f k t390).bind fun bt391 => ((spec_ReadDate.f k t390).bind fun bt396 => (if t369 = bt371.2.2.2 then (if (!(t366 == bt371.1) || (!(t367 == bt371.2.1) || (!(t368 == bt371.2.2.1)))) = true then (laws_FnMonths.j0 k t362 t363 t364 t365 t369 bt386.1 bt386.2 true t366 t367 t368 bt382.1 bt382.2.1 bt382.2.2) else (if bt378.2 = bt380.2 then (if bt378.1 = bt380.1 then (if bt386.2 = bt388.2 then (if bt386.1.toList = bt388.1.toList then (if bt391.2.2.2 = bt396.2.2.2 then (laws_FnMonths.j0 k t362 t363 t364 t365 t369 bt386.1 bt386.2 (!(bt391.1 == bt396.1) || (!(bt391.2.1 == bt396.2.1) || (!(bt391.2.2.1 == bt396.2.2.1)))) t366 t367 t368 bt382.1 bt382.2.1 bt382.2.2) else (laws_FnMonths.j0 k t362 t363 t364 t365 t369 bt386.1 bt386.2 true t366 t367 t368 bt382.1 bt382.2.1 bt382.2.2)) else (laws_FnMonths.j0 k t362 t363 t364 t365 t369 bt386.1 bt386.2 true t366 t367 t368 bt382.1 bt382.2.1 bt382.2.2)) else (laws_FnMonths.j0 k t362 t363 t364 t365 t369 bt386.1 bt386.2 true t366 t367 t368 bt382.1 bt382.2.1 bt382.2.2)) else (laws_FnMonths.j0 k t362 t363 t364 t365 t369 bt386.1 bt386.2 true t366 t367 t368 bt382.1 bt382.2.1 bt382.2.2)) else (laws_FnMonths.j0 k t362 t363 t364 t365 t369 bt386.1 bt386.2 true t366 t367 t368 bt382.1 bt382.2.1 bt382.2.2))) else (laws_FnMonths.j0 k t362 t363 t364 t365 t369 bt386.1 bt386.2 true t366 t367 t368 bt382.1 bt382.2.1 bt382.2.2)))))))))))) = some r := H
    have A5 := Aside0.mk A50
    clear A50
    replace H := Option.bind_eq_some_iff.mp H
    obtain ⟨⟨t371, t372, t373, t374⟩, A60, H⟩ := H
    replace H : ((spec_DrawDaysInMonth.f k l0).bind fun bt376 => ((impl_DaysInMonth.f k bt376.1 bt376.2).bind fun bt378 => ((spec_DaysInMonth.f bt376.1 bt376.2).bind fun bt380 => ((spec_DrawDateText.f k l0).bind fun bt382 => ((impl_DateText.f k bt382.1 bt382.2.1 bt382.2.2).bind fun bt386 => ((spec_DateText.f k bt382.1 bt382.2.1 bt382.2.2).bind fun bt388 => ((spec_DrawReadDate.f k l0).bind fun t390 => ((impl_ReadDate.f k t390).bind fun bt391 => ((spec_ReadDate.f k t390).bind fun bt396 => (if t369 = t374 then (if (!(t366 == t371) || (!(t367 == t372) || (!(t368 == t373)))) = true then (laws_FnMonths.j0 k t362 t363 t364 t365 t369 bt386.1 bt386.2 true t366 t367 t368 bt382.1 bt382.2.1 bt382.2.2) else (if bt378.2 = bt380.2 then (if bt378.1 = bt380.1 then (if bt386.2 = bt388.2 then (if bt386.1.toList = bt388.1.toList then (if bt391.2.2.2 = bt396.2.2.2 then (laws_FnMonths.j0 k t362 t363 t364 t365 t369 bt386.1 bt386.2 (!(bt391.1 == bt396.1) || (!(bt391.2.1 == bt396.2.1) || (!(bt391.2.2.1 == bt396.2.2.1)))) t366 t367 t368 bt382.1 bt382.2.1 bt382.2.2) else (laws_FnMonths.j0 k t362 t363 t364 t365 t369 bt386.1 bt386.2 true t366 t367 t368 bt382.1 bt382.2.1 bt382.2.2)) else (laws_FnMonths.j0 k t362 t363 t364 t365 t369 bt386.1 bt386.2 true t366 t367 t368 bt382.1 bt382.2.1 bt382.2.2)) else (laws_FnMonths.j0 k t362 t363 t364 t365 t369 bt386.1 bt386.2 true t366 t367 t368 bt382.1 bt382.2.1 bt382.2.2)) else (laws_FnMonths.j0 k t362 t363 t364 t365 t369 bt386.1 bt386.2 true t366 t367 t368 bt382.1 bt382.2.1 bt382.2.2)) else (laws_FnMonths.j0 k t362 t363 t364 t365 t369 bt386.1 bt386.2 true t366 t367 t368 bt382.1 bt382.2.1 bt382.2.2))) else (laws_FnMonths.j0 k t362 t363 t364 t365 t369 bt386.1 bt386.2 true t366 t367 t368 bt382.1 bt382.2.1 bt382.2.2))))))))))) = some r := H
    have A6 := Aside0.mk A60
    clear A60
    replace H := Option.bind_eq_some_iff.mp H
    obtain ⟨⟨t376, t377⟩, A70, H⟩ := H
    replace H : ((impl_DaysInMonth.f k t376 t377).bind fun bt378 => ((spec_DaysInMonth.f t376 t377).bind fun bt380 => ((spec_DrawDateText.f k l0).bind fun bt382 => ((impl_DateText.f k bt382.1 bt382.2.1 bt382.2.2).bind fun bt386 => ((spec_DateText.f k bt382.1 bt382.2.1 bt382.2.2).bind fun bt388 => ((spec_DrawReadDate.f k l0).bind fun t390 => ((impl_ReadDate.f k t390).bind fun bt391 => ((spec_ReadDate.f k t390).bind fun bt396 => (if t369 = t374 then (if (!(t366 == t371) || (!(t367 == t372) || (!(t368 == t373)))) = true then (laws_FnMonths.j0 k t362 t363 t364 t365 t369 bt386.1 bt386.2 true t366 t367 t368 bt382.1 bt382.2.1 bt382.2.2) else (if bt378.2 = bt380.2 then (if bt378.1 = bt380.1 then (if bt386.2 = bt388.2 then (if bt386.1.toList = bt388.1.toList then (if bt391.2.2.2 = bt396.2.2.2 then (laws_FnMonths.j0 k t362 t363 t364 t365 t369 bt386.1 bt386.2 (!(bt391.1 == bt396.1) || (!(bt391.2.1 == bt396.2.1) || (!(bt391.2.2.1 == bt396.2.2.1)))) t366 t367 t368 bt382.1 bt382.2.1 bt382.2.2) else (laws_FnMonths.j0 k t362 t363 t364 t365 t369 bt386.1 bt386.2 true t366 t367 t368 bt382.1 bt382.2.1 bt382.2.2)) else (laws_FnMonths.j0 k t362 t363 t364 t365 t369 bt386.1 bt386.2 true t366 t367 t368 bt382.1 bt382.2.1 bt382.2.2)) else (laws_FnMonths.j0 k t362 t363 t364 t365 t369 bt386.1 bt386.2 true t366 t367 t368 bt382.1 bt382.2.1 bt382.2.2)) else (laws_FnMonths.j0 k t362 t363 t364 t365 t369 bt386.1 bt386.2 true t366 t367 t368 bt382.1 bt382.2.1 bt382.2.2)) else (laws_FnMonths.j0 k t362 t363 t364 t365 t369 bt386.1 bt386.2 true t366 t367 t368 bt382.1 bt382.2.1 bt382.2.2))) else (laws_FnMonths.j0 k t362 t363 t364 t365 t369 bt386.1 bt386.2 true t366 t367 t368 bt382.1 bt382.2.1 bt382.2.2)))))))))) = some r := H
    have A7 := Aside0.mk A70
    clear A70
    replace H := Option.bind_eq_some_iff.mp H
    obtain ⟨⟨t378, t379⟩, A80, H⟩ := H
    replace H : ((spec_DaysInMonth.f t376 t377).bind fun bt380 => ((spec_DrawDateText.f k l0).bind fun bt382 => ((impl_DateText.f k bt382.1 bt382.2.1 bt382.2.2).bind fun bt386 => ((spec_DateText.f k bt382.1 bt382.2.1 bt382.2.2).bind fun bt388 => ((spec_DrawReadDate.f k l0).bind fun t390 => ((impl_ReadDate.f k t390).bind fun bt391 => ((spec_ReadDate.f k t390).bind fun bt396 => (if t369 = t374 then (if (!(t366 == t371) || (!(t367 == t372) || (!(t368 == t373)))) = true then (laws_FnMonths.j0 k t362 t363 t364 t365 t369 bt386.1 bt386.2 true t366 t367 t368 bt382.1 bt382.2.1 bt382.2.2) else (if t379 = bt380.2 then (if t378 = bt380.1 then (if bt386.2 = bt388.2 then (if bt386.1.toList = bt388.1.toList then (if bt391.2.2.2 = bt396.2.2.2 then (laws_FnMonths.j0 k t362 t363 t364 t365 t369 bt386.1 bt386.2 (!(bt391.1 == bt396.1) || (!(bt391.2.1 == bt396.2.1) || (!(bt391.2.2.1 == bt396.2.2.1)))) t366 t367 t368 bt382.1 bt382.2.1 bt382.2.2) else (laws_FnMonths.j0 k t362 t363 t364 t365 t369 bt386.1 bt386.2 true t366 t367 t368 bt382.1 bt382.2.1 bt382.2.2)) else (laws_FnMonths.j0 k t362 t363 t364 t365 t369 bt386.1 bt386.2 true t366 t367 t368 bt382.1 bt382.2.1 bt382.2.2)) else (laws_FnMonths.j0 k t362 t363 t364 t365 t369 bt386.1 bt386.2 true t366 t367 t368 bt382.1 bt382.2.1 bt382.2.2)) else (laws_FnMonths.j0 k t362 t363 t364 t365 t369 bt386.1 bt386.2 true t366 t367 t368 bt382.1 bt382.2.1 bt382.2.2)) else (laws_FnMonths.j0 k t362 t363 t364 t365 t369 bt386.1 bt386.2 true t366 t367 t368 bt382.1 bt382.2.1 bt382.2.2))) else (laws_FnMonths.j0 k t362 t363 t364 t365 t369 bt386.1 bt386.2 true t366 t367 t368 bt382.1 bt382.2.1 bt382.2.2))))))))) = some r := H
    have A8 := Aside0.mk A80
    clear A80
    replace H := Option.bind_eq_some_iff.mp H
    obtain ⟨⟨t380, t381⟩, A90, H⟩ := H
    replace H : ((spec_DrawDateText.f k l0).bind fun bt382 => ((impl_DateText.f k bt382.1 bt382.2.1 bt382.2.2).bind fun bt386 => ((spec_DateText.f k bt382.1 bt382.2.1 bt382.2.2).bind fun bt388 => ((spec_DrawReadDate.f k l0).bind fun t390 => ((impl_ReadDate.f k t390).bind fun bt391 => ((spec_ReadDate.f k t390).bind fun bt396 => (if t369 = t374 then (if (!(t366 == t371) || (!(t367 == t372) || (!(t368 == t373)))) = true then (laws_FnMonths.j0 k t362 t363 t364 t365 t369 bt386.1 bt386.2 true t366 t367 t368 bt382.1 bt382.2.1 bt382.2.2) else (if t379 = t381 then (if t378 = t380 then (if bt386.2 = bt388.2 then (if bt386.1.toList = bt388.1.toList then (if bt391.2.2.2 = bt396.2.2.2 then (laws_FnMonths.j0 k t362 t363 t364 t365 t369 bt386.1 bt386.2 (!(bt391.1 == bt396.1) || (!(bt391.2.1 == bt396.2.1) || (!(bt391.2.2.1 == bt396.2.2.1)))) t366 t367 t368 bt382.1 bt382.2.1 bt382.2.2) else (laws_FnMonths.j0 k t362 t363 t364 t365 t369 bt386.1 bt386.2 true t366 t367 t368 bt382.1 bt382.2.1 bt382.2.2)) else (laws_FnMonths.j0 k t362 t363 t364 t365 t369 bt386.1 bt386.2 true t366 t367 t368 bt382.1 bt382.2.1 bt382.2.2)) else (laws_FnMonths.j0 k t362 t363 t364 t365 t369 bt386.1 bt386.2 true t366 t367 t368 bt382.1 bt382.2.1 bt382.2.2)) else (laws_FnMonths.j0 k t362 t363 t364 t365 t369 bt386.1 bt386.2 true t366 t367 t368 bt382.1 bt382.2.1 bt382.2.2)) else (laws_FnMonths.j0 k t362 t363 t364 t365 t369 bt386.1 bt386.2 true t366 t367 t368 bt382.1 bt382.2.1 bt382.2.2))) else (laws_FnMonths.j0 k t362 t363 t364 t365 t369 bt386.1 bt386.2 true t366 t367 t368 bt382.1 bt382.2.1 bt382.2.2)))))))) = some r := H
    have A9 := Aside0.mk A90
    clear A90
    replace H := Option.bind_eq_some_iff.mp H
    obtain ⟨⟨t382, t383, t384⟩, A100, H⟩ := H
    replace H : ((impl_DateText.f k t382 t383 t384).bind fun bt386 => ((spec_DateText.f k t382 t383 t384).bind fun bt388 => ((spec_DrawReadDate.f k l0).bind fun t390 => ((impl_ReadDate.f k t390).bind fun bt391 => ((spec_ReadDate.f k t390).bind fun bt396 => (if t369 = t374 then (if (!(t366 == t371) || (!(t367 == t372) || (!(t368 == t373)))) = true then (laws_FnMonths.j0 k t362 t363 t364 t365 t369 bt386.1 bt386.2 true t366 t367 t368 t382 t383 t384) else (if t379 = t381 then (if t378 = t380 then (if bt386.2 = bt388.2 then (if bt386.1.toList = bt388.1.toList then (if bt391.2.2.2 = bt396.2.2.2 then (laws_FnMonths.j0 k t362 t363 t364 t365 t369 bt386.1 bt386.2 (!(bt391.1 == bt396.1) || (!(bt391.2.1 == bt396.2.1) || (!(bt391.2.2.1 == bt396.2.2.1)))) t366 t367 t368 t382 t383 t384) else (laws_FnMonths.j0 k t362 t363 t364 t365 t369 bt386.1 bt386.2 true t366 t367 t368 t382 t383 t384)) else (laws_FnMonths.j0 k t362 t363 t364 t365 t369 bt386.1 bt386.2 true t366 t367 t368 t382 t383 t384)) else (laws_FnMonths.j0 k t362 t363 t364 t365 t369 bt386.1 bt386.2 true t366 t367 t368 t382 t383 t384)) else (laws_FnMonths.j0 k t362 t363 t364 t365 t369 bt386.1 bt386.2 true t366 t367 t368 t382 t383 t384)) else (laws_FnMonths.j0 k t362 t363 t364 t365 t369 bt386.1 bt386.2 true t366 t367 t368 t382 t383 t384))) else (laws_FnMonths.j0 k t362 t363 t364 t365 t369 bt386.1 bt386.2 true t366 t367 t368 t382 t383 t384))))))) = some r := H
    have A10 := Aside0.mk A100
    clear A100
    replace H := Option.bind_eq_some_iff.mp H
    obtain ⟨⟨t386, t387⟩, A110, H⟩ := H
    replace H : ((spec_DateText.f k t382 t383 t384).bind fun bt388 => ((spec_DrawReadDate.f k l0).bind fun t390 => ((impl_ReadDate.f k t390).bind fun bt391 => ((spec_ReadDate.f k t390).bind fun bt396 => (if t369 = t374 then (if (!(t366 == t371) || (!(t367 == t372) || (!(t368 == t373)))) = true then (laws_FnMonths.j0 k t362 t363 t364 t365 t369 t386 t387 true t366 t367 t368 t382 t383 t384) else (if t379 = t381 then (if t378 = t380 then (if t387 = bt388.2 then (if t386.toList = bt388.1.toList then (if bt391.2.2.2 = bt396.2.2.2 then (laws_FnMonths.j0 k t362 t363 t364 t365 t369 t386 t387 (!(bt391.1 == bt396.1) || (!(bt391.2.1 == bt396.2.1) || (!(bt391.2.2.1 == bt396.2.2.1)))) t366 t367 t368 t382 t383 t384) else (laws_FnMonths.j0 k t362 t363 t364 t365 t369 t386 t387 true t366 t367 t368 t382 t383 t384)) else (laws_FnMonths.j0 k t362 t363 t364 t365 t369 t386 t387 true t366 t367 t368 t382 t383 t384)) else (laws_FnMonths.j0 k t362 t363 t364 t365 t369 t386 t387 true t366 t367 t368 t382 t383 t384)) else (laws_FnMonths.j0 k t362 t363 t364 t365 t369 t386 t387 true t366 t367 t368 t382 t383 t384)) else (laws_FnMonths.j0 k t362 t363 t364 t365 t369 t386 t387 true t366 t367 t368 t382 t383 t384))) else (laws_FnMonths.j0 k t362 t363 t364 t365 t369 t386 t387 true t366 t367 t368 t382 t383 t384)))))) = some r := H
    have A11 := Aside0.mk A110
    clear A110
    replace H := Option.bind_eq_some_iff.mp H
    obtain ⟨⟨t388, t389⟩, A120, H⟩ := H
    replace H : ((spec_DrawReadDate.f k l0).bind fun t390 => ((impl_ReadDate.f k t390).bind fun bt391 => ((spec_ReadDate.f k t390).bind fun bt396 => (if t369 = t374 then (if (!(t366 == t371) || (!(t367 == t372) || (!(t368 == t373)))) = true then (laws_FnMonths.j0 k t362 t363 t364 t365 t369 t386 t387 true t366 t367 t368 t382 t383 t384) else (if t379 = t381 then (if t378 = t380 then (if t387 = t389 then (if t386.toList = t388.toList then (if bt391.2.2.2 = bt396.2.2.2 then (laws_FnMonths.j0 k t362 t363 t364 t365 t369 t386 t387 (!(bt391.1 == bt396.1) || (!(bt391.2.1 == bt396.2.1) || (!(bt391.2.2.1 == bt396.2.2.1)))) t366 t367 t368 t382 t383 t384) else (laws_FnMonths.j0 k t362 t363 t364 t365 t369 t386 t387 true t366 t367 t368 t382 t383 t384)) else (laws_FnMonths.j0 k t362 t363 t364 t365 t369 t386 t387 true t366 t367 t368 t382 t383 t384)) else (laws_FnMonths.j0 k t362 t363 t364 t365 t369 t386 t387 true t366 t367 t368 t382 t383 t384)) else (laws_FnMonths.j0 k t362 t363 t364 t365 t369 t386 t387 true t366 t367 t368 t382 t383 t384)) else (laws_FnMonths.j0 k t362 t363 t364 t365 t369 t386 t387 true t366 t367 t368 t382 t383 t384))) else (laws_FnMonths.j0 k t362 t363 t364 t365 t369 t386 t387 true t366 t367 t368 t382 t383 t384))))) = some r := H
    have A12 := Aside0.mk A120
    clear A120
    replace H := Option.bind_eq_some_iff.mp H
    obtain ⟨t390, A130, H⟩ := H
    replace H : ((impl_ReadDate.f k t390).bind fun bt391 => ((spec_ReadDate.f k t390).bind fun bt396 => (if t369 = t374 then (if (!(t366 == t371) || (!(t367 == t372) || (!(t368 == t373)))) = true then (laws_FnMonths.j0 k t362 t363 t364 t365 t369 t386 t387 true t366 t367 t368 t382 t383 t384) else (if t379 = t381 then (if t378 = t380 then (if t387 = t389 then (if t386.toList = t388.toList then (if bt391.2.2.2 = bt396.2.2.2 then (laws_FnMonths.j0 k t362 t363 t364 t365 t369 t386 t387 (!(bt391.1 == bt396.1) || (!(bt391.2.1 == bt396.2.1) || (!(bt391.2.2.1 == bt396.2.2.1)))) t366 t367 t368 t382 t383 t384) else (laws_FnMonths.j0 k t362 t363 t364 t365 t369 t386 t387 true t366 t367 t368 t382 t383 t384)) else (laws_FnMonths.j0 k t362 t363 t364 t365 t369 t386 t387 true t366 t367 t368 t382 t383 t384)) else (laws_FnMonths.j0 k t362 t363 t364 t365 t369 t386 t387 true t366 t367 t368 t382 t383 t384)) else (laws_FnMonths.j0 k t362 t363 t364 t365 t369 t386 t387 true t366 t367 t368 t382 t383 t384)) else (laws_FnMonths.j0 k t362 t363 t364 t365 t369 t386 t387 true t366 t367 t368 t382 t383 t384))) else (laws_FnMonths.j0 k t362 t363 t364 t365 t369 t386 t387 true t366 t367 t368 t382 t383 t384)))) = some r := H
    have A13 := Aside0.mk A130
    clear A130
    replace H := Option.bind_eq_some_iff.mp H
    obtain ⟨⟨t391, t392, t393, t394⟩, A140, H⟩ := H
    replace H : ((spec_ReadDate.f k t390).bind fun bt396 => (if t369 = t374 then (if (!(t366 == t371) || (!(t367 == t372) || (!(t368 == t373)))) = true then (laws_FnMonths.j0 k t362 t363 t364 t365 t369 t386 t387 true t366 t367 t368 t382 t383 t384) else (if t379 = t381 then (if t378 = t380 then (if t387 = t389 then (if t386.toList = t388.toList then (if t394 = bt396.2.2.2 then (laws_FnMonths.j0 k t362 t363 t364 t365 t369 t386 t387 (!(t391 == bt396.1) || (!(t392 == bt396.2.1) || (!(t393 == bt396.2.2.1)))) t366 t367 t368 t382 t383 t384) else (laws_FnMonths.j0 k t362 t363 t364 t365 t369 t386 t387 true t366 t367 t368 t382 t383 t384)) else (laws_FnMonths.j0 k t362 t363 t364 t365 t369 t386 t387 true t366 t367 t368 t382 t383 t384)) else (laws_FnMonths.j0 k t362 t363 t364 t365 t369 t386 t387 true t366 t367 t368 t382 t383 t384)) else (laws_FnMonths.j0 k t362 t363 t364 t365 t369 t386 t387 true t366 t367 t368 t382 t383 t384)) else (laws_FnMonths.j0 k t362 t363 t364 t365 t369 t386 t387 true t366 t367 t368 t382 t383 t384))) else (laws_FnMonths.j0 k t362 t363 t364 t365 t369 t386 t387 true t366 t367 t368 t382 t383 t384))) = some r := H
    have A14 := Aside0.mk A140
    clear A140
    replace H := Option.bind_eq_some_iff.mp H
    obtain ⟨⟨t396, t397, t398, t399⟩, A150, H⟩ := H
    replace H : (if t369 = t374 then (if (!(t366 == t371) || (!(t367 == t372) || (!(t368 == t373)))) = true then (laws_FnMonths.j0 k t362 t363 t364 t365 t369 t386 t387 true t366 t367 t368 t382 t383 t384) else (if t379 = t381 then (if t378 = t380 then (if t387 = t389 then (if t386.toList = t388.toList then (if t394 = t399 then (laws_FnMonths.j0 k t362 t363 t364 t365 t369 t386 t387 (!(t391 == t396) || (!(t392 == t397) || (!(t393 == t398)))) t366 t367 t368 t382 t383 t384) else (laws_FnMonths.j0 k t362 t363 t364 t365 t369 t386 t387 true t366 t367 t368 t382 t383 t384)) else (laws_FnMonths.j0 k t362 t363 t364 t365 t369 t386 t387 true t366 t367 t368 t382 t383 t384)) else (laws_FnMonths.j0 k t362 t363 t364 t365 t369 t386 t387 true t366 t367 t368 t382 t383 t384)) else (laws_FnMonths.j0 k t362 t363 t364 t365 t369 t386 t387 true t366 t367 t368 t382 t383 t384)) else (laws_FnMonths.j0 k t362 t363 t364 t365 t369 t386 t387 true t366 t367 t368 t382 t383 t384))) else (laws_FnMonths.j0 k t362 t363 t364 t365 t369 t386 t387 true t366 t367 t368 t382 t383 t384)) = some r := H
    have A15 := Aside0.mk A150
    clear A150
    have HC16 := Aside0.mk H
    clear H
    go_enter Tryd.func3, Tryd.ntmps3
    go_upto_region 15 with (first | ((with_reducible refine gate_callee (f := 6) rfl ?_); refine goesL_ (some 34) rfl rfl Tryd.func6 (by kernel_rfl) rfl #[.slice A0 l0.length c0] rfl (by (try simp only [List.map_toArray, List.map_cons, List.map_nil]); first | done | rfl | (simp only [List.length_drop, List.length_take]; rfl)) ?_; (with_reducible refine (laws_big.calls _ _ l0 false _ ?side1 ?side2 A2.out).mono ?_); (case side1 => repeat (first | exact HR0.out | (with_reducible refine Kd.C_alloc ?_ _) | (with_reducible refine Kd.C_drewN ?_ _) | (with_reducible refine Kd.C_drew ?_))); (case side2 => exact HC0.out); rintro e w' ⟨rfl, ⟨nd, rfl⟩⟩; refine ⟨_, rfl, ?_⟩) | ((with_reducible refine gate_callee (f := 7) rfl ?_); refine goesL_ (some 37) rfl rfl Tryd.func7 (by kernel_rfl) rfl #[.slice A0 l0.length c0] rfl (by (try simp only [List.map_toArray, List.map_cons, List.map_nil]); first | done | rfl | (simp only [List.length_drop, List.length_take]; rfl)) ?_; (with_reducible refine (spec_DrawNthWeekday.calls k _ _ l0 t362 t363 t364 t365 _ ?side1 ?side2 A4.out).mono ?_); (case side1 => repeat (first | exact HR0.out | (with_reducible refine Kd.C_alloc ?_ _) | (with_reducible refine Kd.C_drewN ?_ _) | (with_reducible refine Kd.C_drew ?_))); (case side2 => exact HC0.out); rintro e w17 ⟨rfl, hb⟩; refine ⟨_, rfl, ?_⟩; have n0_ := Aside0.mk (below_step (by repeat (first | (with_reducible first | exact HB.out | apply below_alloc | apply pw_below_drewN | apply below_drew1) | exact HB.out)) hb); clear HB; have HB := n0_; clear n0_; (try clear hb); (try clear hb2); (try clear hk); (try clear hi)) | ((with_reducible refine gate_callee (f := 8) rfl ?_); refine goesL_ (some 47) rfl rfl Tryd.func8 (by kernel_rfl) rfl #[.int .i64 t362, .int .i64 t363, .int .i64 t364, .int .i64 t365] rfl (by (try simp only [List.map_toArray, List.map_cons, List.map_nil]); first | done | rfl | (simp only [List.length_drop, List.length_take]; rfl)) ?_; (with_reducible refine (impl_NthWeekday.calls k t362 t363 t364 t365 t366 t367 t368 t369 _ A5.out).mono ?_); rintro e w18 ⟨rfl, hb⟩; refine ⟨_, rfl, ?_⟩; have n0_ := Aside0.mk (below_step (by repeat (first | (with_reducible first | exact HB.out | apply below_alloc | apply pw_below_drewN | apply below_drew1) | exact HB.out)) hb); clear HB; have HB := n0_; clear n0_; (try clear hb); (try clear hb2); (try clear hk); (try clear hi)) | ((with_reducible refine gate_dst (N := 7) rfl ?_); refine box_event ?hg (N := 7) ?hd (cs := #[.int .i64 0, .int .i64 0, .int .i64 0]) (t := 27) ?hr ?_; (case hd => rfl); (case hg => rfl); (case hr => first | (go_simp; done) | (go_simp; rfl)); intro gb370 hg w19 hbox hb; have n0_ := Aside0.mk (below_step (by repeat (first | (with_reducible first | exact HB.out | apply below_alloc | apply pw_below_drewN | apply below_drew1) | exact HB.out)) hb); have n1_ := Aside0.mk (hbox); have n2_ := Aside0.mk ((by rw [hg]; exact (below_size (by repeat (first | (with_reducible first | exact HB.out | apply below_alloc | apply pw_below_drewN | apply below_drew1) | exact HB.out))) : w.heap.size ≤ gb370)); have n3_ := Aside0.mk ((by rw [hg]; exact (below_size (by repeat (first | (with_reducible first | exact HB.out | apply below_alloc | apply pw_below_drewN | apply below_drew1) | exact HB.out))) : w.heap.size ≤ gb370)); clear HB; have HB := n0_; have BK370 := n1_; have GW370 := n2_; have GE370 := n3_; clear n0_ n1_ n2_ n3_; clear hb hbox hg; have hcz20_0 : w19.cell? ⟨gb370, 0, none⟩ = some (.int .i64 0) := (blk_cell BK370.out 0).trans rfl; have hcz20_1 : w19.cell? ⟨gb370, 1, none⟩ = some (.int .i64 0) := (blk_cell BK370.out 1).trans rfl; have hcz20_2 : w19.cell? ⟨gb370, 2, none⟩ = some (.int .i64 0) := (blk_cell BK370.out 2).trans rfl; have hfz20_0 := blk_frozen BK370.out 0; have hfz20_1 := blk_frozen BK370.out 1; have hfz20_2 := blk_frozen BK370.out 2) | ((with_reducible refine gate_callee (f := 9) rfl ?_); refine goesL_ (some 55) rfl rfl Tryd.func9 (by kernel_rfl) rfl #[.int .i64 t362, .int .i64 t363, .int .i64 t364, .int .i64 t365] rfl (by (try simp only [List.map_toArray, List.map_cons, List.map_nil]); first | done | rfl | (simp only [List.length_drop, List.length_take]; rfl)) ?_; (with_reducible refine (spec_NthWeekday.calls k t362 t363 t364 t365 t371 t372 t373 t374 _ A6.out).mono ?_); rintro e w21 ⟨rfl, hb⟩; refine ⟨_, rfl, ?_⟩; have n0_ := Aside0.mk (blk_below (g := gb370) (o := .cells #[.int .i64 t366, .int .i64 t367, .int .i64 t368] 27 (0, 0)) (by (with_reducible repeat (first | refine blk_drewN ?_ _ | refine blk_drew ?_ | refine blk_alloc ?_ _)); refine blk_put (cs := #[.int .i64 t366, .int .i64 t367, .int .i64 0]) ?_ 2 _ rfl; (with_reducible repeat (first | refine blk_drewN ?_ _ | refine blk_drew ?_ | refine blk_alloc ?_ _)); refine blk_put (cs := #[.int .i64 t366, .int .i64 0, .int .i64 0]) ?_ 1 _ rfl; (with_reducible repeat (first | refine blk_drewN ?_ _ | refine blk_drew ?_ | refine blk_alloc ?_ _)); refine blk_put (cs := #[.int .i64 0, .int .i64 0, .int .i64 0]) ?_ 0 _ rfl; (with_reducible repeat (first | refine blk_drewN ?_ _ | refine blk_drew ?_ | refine blk_alloc ?_ _)); exact BK370.out) hb); have n1_ := Aside0.mk (below_step (by repeat (first | (with_reducible first | exact HB.out | apply below_alloc | apply pw_below_drewN | apply below_drew1 | refine below_set ?_ GE370.out) | exact HB.out)) hb); clear BK370; clear HB; have BK370 := n0_; have HB := n1_; clear n0_ n1_; (try clear hb); (try clear hb2); (try clear hk); (try clear hi)) | ((with_reducible refine gate_dst (N := 9) rfl ?_); refine box_event ?hg (N := 9) ?hd (cs := #[.int .i64 0, .int .i64 0, .int .i64 0]) (t := 27) ?hr ?_; (case hd => rfl); (case hg => rfl); (case hr => first | (go_simp; done) | (go_simp; rfl)); intro gb375 hg w22 hbox hb; have n0_ := Aside0.mk (blk_below (g := gb370) (o := .cells #[.int .i64 t366, .int .i64 t367, .int .i64 t368] 27 (0, 0)) (by (with_reducible repeat (first | refine blk_drewN ?_ _ | refine blk_drew ?_ | refine blk_alloc ?_ _)); exact BK370.out) hb); have n1_ := Aside0.mk (below_step (by repeat (first | (with_reducible first | exact HB.out | apply below_alloc | apply pw_below_drewN | apply below_drew1 | refine below_set ?_ GE370.out) | exact HB.out)) hb); have n2_ := Aside0.mk (hbox); have n3_ := Aside0.mk ((by rw [hg]; exact (below_size (by repeat (first | (with_reducible first | exact HB.out | apply below_alloc | apply pw_below_drewN | apply below_drew1 | refine below_set ?_ GE370.out) | exact HB.out))) : w.heap.size ≤ gb375)); have n4_ := Aside0.mk ((by rw [hg]; exact (below_size (by repeat (first | (with_reducible first | exact HB.out | apply below_alloc | apply pw_below_drewN | apply below_drew1 | refine below_set ?_ GE370.out) | exact HB.out))) : w.heap.size ≤ gb375)); have n5_ := Aside0.mk ((by rw [hg]; exact Nat.ne_of_lt (blk_lt (g := gb370) (o := .cells #[.int .i64 t366, .int .i64 t367, .int .i64 t368] 27 (0, 0)) (by (with_reducible repeat (first | refine blk_drewN ?_ _ | refine blk_drew ?_ | refine blk_alloc ?_ _)); exact BK370.out)) : gb370 ≠ gb375)); have n6_ := Aside0.mk ((by rw [hg]; exact Nat.ne_of_gt (blk_lt (g := gb370) (o := .cells #[.int .i64 t366, .int .i64 t367, .int .i64 t368] 27 (0, 0)) (by (with_reducible repeat (first | refine blk_drewN ?_ _ | refine blk_drew ?_ | refine blk_alloc ?_ _)); exact BK370.out)) : gb375 ≠ gb370)); clear BK370; clear HB; have BK370 := n0_; have HB := n1_; have BK375 := n2_; have GW375 := n3_; have GE375 := n4_; have NB370_375 := n5_; have NB375_370 := n6_; clear n0_ n1_ n2_ n3_ n4_ n5_ n6_; clear hb hbox hg; have hnb23 := NB375_370.out; have hnc23 := NB370_375.out; have hcz24_0 : w22.cell? ⟨gb375, 0, none⟩ = some (.int .i64 0) := (blk_cell BK375.out 0).trans rfl; have hcz24_1 : w22.cell? ⟨gb375, 1, none⟩ = some (.int .i64 0) := (blk_cell BK375.out 1).trans rfl; have hcz24_2 : w22.cell? ⟨gb375, 2, none⟩ = some (.int .i64 0) := (blk_cell BK375.out 2).trans rfl; have hfz24_0 := blk_frozen BK375.out 0; have hfz24_1 := blk_frozen BK375.out 1; have hfz24_2 := blk_frozen BK375.out 2) | ((with_reducible refine gate_callee (f := 10) rfl ?_); refine goesL_ (some 60) rfl rfl Tryd.func10 (by kernel_rfl) rfl #[.slice A0 l0.length c0] rfl (by (try simp only [List.map_toArray, List.map_cons, List.map_nil]); first | done | rfl | (simp only [List.length_drop, List.length_take]; rfl)) ?_; (with_reducible refine (spec_DrawDaysInMonth.calls k _ _ l0 t376 t377 _ ?side1 ?side2 A7.out).mono ?_); (case side1 => exact Kd.C_below HR0.out (by repeat (first | (with_reducible first | exact HB.out | apply below_alloc | apply pw_below_drewN | apply below_drew1 | refine below_set ?_ GE370.out | refine below_set ?_ GE375.out) | exact HB.out))); (case side2 => exact HC0.out); rintro e w25 ⟨rfl, hb⟩; refine ⟨_, rfl, ?_⟩; have n0_ := Aside0.mk (blk_below (g := gb370) (o := .cells #[.int .i64 t366, .int .i64 t367, .int .i64 t368] 27 (0, 0)) (by (with_reducible repeat (first | refine blk_drewN ?_ _ | refine blk_drew ?_ | refine blk_alloc ?_ _)); refine blk_far ?_ NB370_375.out _; (with_reducible repeat (first | refine blk_drewN ?_ _ | refine blk_drew ?_ | refine blk_alloc ?_ _)); refine blk_far ?_ NB370_375.out _; (with_reducible repeat (first | refine blk_drewN ?_ _ | refine blk_drew ?_ | refine blk_alloc ?_ _)); refine blk_far ?_ NB370_375.out _; (with_reducible repeat (first | refine blk_drewN ?_ _ | refine blk_drew ?_ | refine blk_alloc ?_ _)); exact BK370.out) hb); have n1_ := Aside0.mk (blk_below (g := gb375) (o := .cells #[.int .i64 t371, .int .i64 t372, .int .i64 t373] 27 (0, 0)) (by (with_reducible repeat (first | refine blk_drewN ?_ _ | refine blk_drew ?_ | refine blk_alloc ?_ _)); refine blk_put (cs := #[.int .i64 t371, .int .i64 t372, .int .i64 0]) ?_ 2 _ rfl; (with_reducible repeat (first | refine blk_drewN ?_ _ | refine blk_drew ?_ | refine blk_alloc ?_ _)); refine blk_put (cs := #[.int .i64 t371, .int .i64 0, .int .i64 0]) ?_ 1 _ rfl; (with_reducible repeat (first | refine blk_drewN ?_ _ | refine blk_drew ?_ | refine blk_alloc ?_ _)); refine blk_put (cs := #[.int .i64 0, .int .i64 0, .int .i64 0]) ?_ 0 _ rfl; (with_reducible repeat (first | refine blk_drewN ?_ _ | refine blk_drew ?_ | refine blk_alloc ?_ _)); exact BK375.out) hb); have n2_ := Aside0.mk (below_step (by repeat (first | (with_reducible first | exact HB.out | apply below_alloc | apply pw_below_drewN | apply below_drew1 | refine below_set ?_ GE370.out | refine below_set ?_ GE375.out) | exact HB.out)) hb); clear BK370; clear BK375; clear HB; have BK370 := n0_; have BK375 := n1_; have HB := n2_; clear n0_ n1_ n2_; (try clear hb); (try clear hb2); (try clear hk); (try clear hi)) | ((with_reducible refine gate_callee (f := 11) rfl ?_); refine goesL_ (some 66) rfl rfl Tryd.func11 (by kernel_rfl) rfl #[.int .i64 t376, .int .i64 t377] rfl (by (try simp only [List.map_toArray, List.map_cons, List.map_nil]); first | done | rfl | (simp only [List.length_drop, List.length_take]; rfl)) ?_; (with_reducible refine (impl_DaysInMonth.calls k t376 t377 t378 t379 _ A8.out).mono ?_); rintro e w' ⟨rfl, ⟨nd, rfl⟩⟩; refine ⟨_, rfl, ?_⟩; (try (rw [drewN_self w25]; generalize hq_ : World.drewN w25 _ = w25; have n0_ : Aside0 (w25.heap[gb370]? = some (.cells #[.int .i64 t366, .int .i64 t367, .int .i64 t368] 27 (0, 0))) := ⟨by rw [← hq_]; exact (by (with_reducible repeat (first | refine blk_drewN ?_ _ | refine blk_drew ?_ | refine blk_alloc ?_ _)); exact BK370.out)⟩; have n1_ : Aside0 (w25.heap[gb375]? = some (.cells #[.int .i64 t371, .int .i64 t372, .int .i64 t373] 27 (0, 0))) := ⟨by rw [← hq_]; exact (by (with_reducible repeat (first | refine blk_drewN ?_ _ | refine blk_drew ?_ | refine blk_alloc ?_ _)); exact BK375.out)⟩; have n2_ : Aside0 (Below w.heap.size w w25) := ⟨by rw [← hq_]; exact (by repeat (first | (with_reducible first | exact HB.out | apply below_alloc | apply pw_below_drewN | apply below_drew1 | refine below_set ?_ GE370.out | refine below_set ?_ GE375.out) | exact HB.out))⟩; clear BK370 BK375 HB hq_; have BK370 := n0_; have BK375 := n1_; have HB := n2_; clear n0_ n1_ n2_; have hcy1_0 : w25.cell? ⟨gb370, 0, none⟩ = some (.int .i64 t366) := (blk_cell BK370.out 0).trans rfl; have hcy1_1 : w25.cell? ⟨gb370, 1, none⟩ = some (.int .i64 t367) := (blk_cell BK370.out 1).trans rfl; have hcy1_2 : w25.cell? ⟨gb370, 2, none⟩ = some (.int .i64 t368) := (blk_cell BK370.out 2).trans rfl; have hfy1_0 := blk_frozen BK370.out 0; have hfy1_1 := blk_frozen BK370.out 1; have hfy1_2 := blk_frozen BK370.out 2; have hcy2_0 : w25.cell? ⟨gb375, 0, none⟩ = some (.int .i64 t371) := (blk_cell BK375.out 0).trans rfl; have hcy2_1 : w25.cell? ⟨gb375, 1, none⟩ = some (.int .i64 t372) := (blk_cell BK375.out 1).trans rfl; have hcy2_2 : w25.cell? ⟨gb375, 2, none⟩ = some (.int .i64 t373) := (blk_cell BK375.out 2).trans rfl; have hfy2_0 := blk_frozen BK375.out 0; have hfy2_1 := blk_frozen BK375.out 1; have hfy2_2 := blk_frozen BK375.out 2))) | ((with_reducible refine gate_callee (f := 12) rfl ?_); refine goesL_ (some 72) rfl rfl Tryd.func12 (by kernel_rfl) rfl #[.int .i64 t376, .int .i64 t377] rfl (by (try simp only [List.map_toArray, List.map_cons, List.map_nil]); first | done | rfl | (simp only [List.length_drop, List.length_take]; rfl)) ?_; (with_reducible refine (spec_DaysInMonth.calls t376 t377 t380 t381 _ A9.out).mono ?_); rintro e w' ⟨rfl, ⟨nd, rfl⟩⟩; refine ⟨_, rfl, ?_⟩; (try (rw [drewN_self w25]; generalize hq_ : World.drewN w25 _ = w25; have n0_ : Aside0 (w25.heap[gb370]? = some (.cells #[.int .i64 t366, .int .i64 t367, .int .i64 t368] 27 (0, 0))) := ⟨by rw [← hq_]; exact (by (with_reducible repeat (first | refine blk_drewN ?_ _ | refine blk_drew ?_ | refine blk_alloc ?_ _)); exact BK370.out)⟩; have n1_ : Aside0 (w25.heap[gb375]? = some (.cells #[.int .i64 t371, .int .i64 t372, .int .i64 t373] 27 (0, 0))) := ⟨by rw [← hq_]; exact (by (with_reducible repeat (first | refine blk_drewN ?_ _ | refine blk_drew ?_ | refine blk_alloc ?_ _)); exact BK375.out)⟩; have n2_ : Aside0 (Below w.heap.size w w25) := ⟨by rw [← hq_]; exact (by repeat (first | (with_reducible first | exact HB.out | apply below_alloc | apply pw_below_drewN | apply below_drew1 | refine below_set ?_ GE370.out | refine below_set ?_ GE375.out) | exact HB.out))⟩; clear BK370 BK375 HB hq_; have BK370 := n0_; have BK375 := n1_; have HB := n2_; clear n0_ n1_ n2_; have hcy3_0 : w25.cell? ⟨gb370, 0, none⟩ = some (.int .i64 t366) := (blk_cell BK370.out 0).trans rfl; have hcy3_1 : w25.cell? ⟨gb370, 1, none⟩ = some (.int .i64 t367) := (blk_cell BK370.out 1).trans rfl; have hcy3_2 : w25.cell? ⟨gb370, 2, none⟩ = some (.int .i64 t368) := (blk_cell BK370.out 2).trans rfl; have hfy3_0 := blk_frozen BK370.out 0; have hfy3_1 := blk_frozen BK370.out 1; have hfy3_2 := blk_frozen BK370.out 2; have hcy4_0 : w25.cell? ⟨gb375, 0, none⟩ = some (.int .i64 t371) := (blk_cell BK375.out 0).trans rfl; have hcy4_1 : w25.cell? ⟨gb375, 1, none⟩ = some (.int .i64 t372) := (blk_cell BK375.out 1).trans rfl; have hcy4_2 : w25.cell? ⟨gb375, 2, none⟩ = some (.int .i64 t373) := (blk_cell BK375.out 2).trans rfl; have hfy4_0 := blk_frozen BK375.out 0; have hfy4_1 := blk_frozen BK375.out 1; have hfy4_2 := blk_frozen BK375.out 2))) | ((with_reducible refine gate_callee (f := 13) rfl ?_); refine goesL_ (some 76) rfl rfl Tryd.func13 (by kernel_rfl) rfl #[.slice A0 l0.length c0] rfl (by (try simp only [List.map_toArray, List.map_cons, List.map_nil]); first | done | rfl | (simp only [List.length_drop, List.length_take]; rfl)) ?_; (with_reducible refine (spec_DrawDateText.calls k _ _ l0 t382 t383 t384 _ ?side1 ?side2 A10.out).mono ?_); (case side1 => repeat (first | exact (Kd.C_below HR0.out HB.out) | (with_reducible refine Kd.C_alloc ?_ _) | (with_reducible refine Kd.C_drewN ?_ _) | (with_reducible refine Kd.C_drew ?_))); (case side2 => exact HC0.out); rintro e w26 ⟨rfl, hb⟩; refine ⟨_, rfl, ?_⟩; have n0_ := Aside0.mk (blk_below (g := gb370) (o := .cells #[.int .i64 t366, .int .i64 t367, .int .i64 t368] 27 (0, 0)) (by (with_reducible repeat (first | refine blk_drewN ?_ _ | refine blk_drew ?_ | refine blk_alloc ?_ _)); exact BK370.out) hb); have n1_ := Aside0.mk (blk_below (g := gb375) (o := .cells #[.int .i64 t371, .int .i64 t372, .int .i64 t373] 27 (0, 0)) (by (with_reducible repeat (first | refine blk_drewN ?_ _ | refine blk_drew ?_ | refine blk_alloc ?_ _)); exact BK375.out) hb); have n2_ := Aside0.mk (below_step (by repeat (first | (with_reducible first | exact HB.out | apply below_alloc | apply pw_below_drewN | apply below_drew1 | refine below_set ?_ GE370.out | refine below_set ?_ GE375.out) | exact HB.out)) hb); clear BK370; clear BK375; clear HB; have BK370 := n0_; have BK375 := n1_; have HB := n2_; clear n0_ n1_ n2_; (try clear hb); (try clear hb2); (try clear hk); (try clear hi)) | ((with_reducible refine gate_dst (N := 17) rfl ?_); refine box_event ?hg (N := 17) ?hd (cs := #[.int .i64 0, .int .i64 0, .int .i64 0]) (t := 27) ?hr ?_; (case hd => rfl); (case hg => rfl); (case hr => first | (go_simp; done) | (go_simp; rfl)); intro gb385 hg w27 hbox hb; have n0_ := Aside0.mk (blk_below (g := gb370) (o := .cells #[.int .i64 t366, .int .i64 t367, .int .i64 t368] 27 (0, 0)) (by (with_reducible repeat (first | refine blk_drewN ?_ _ | refine blk_drew ?_ | refine blk_alloc ?_ _)); exact BK370.out) hb); have n1_ := Aside0.mk (blk_below (g := gb375) (o := .cells #[.int .i64 t371, .int .i64 t372, .int .i64 t373] 27 (0, 0)) (by (with_reducible repeat (first | refine blk_drewN ?_ _ | refine blk_drew ?_ | refine blk_alloc ?_ _)); exact BK375.out) hb); have n2_ := Aside0.mk (below_step (by repeat (first | (with_reducible first | exact HB.out | apply below_alloc | apply pw_below_drewN | apply below_drew1 | refine below_set ?_ GE370.out | refine below_set ?_ GE375.out) | exact HB.out)) hb); have n3_ := Aside0.mk (hbox); have n4_ := Aside0.mk ((by rw [hg]; exact (below_size (by repeat (first | (with_reducible first | exact HB.out | apply below_alloc | apply pw_below_drewN | apply below_drew1 | refine below_set ?_ GE370.out | refine below_set ?_ GE375.out) | exact HB.out))) : w.heap.size ≤ gb385)); have n5_ := Aside0.mk ((by rw [hg]; exact (below_size (by repeat (first | (with_reducible first | exact HB.out | apply below_alloc | apply pw_below_drewN | apply below_drew1 | refine below_set ?_ GE370.out | refine below_set ?_ GE375.out) | exact HB.out))) : w.heap.size ≤ gb385)); have n6_ := Aside0.mk ((by rw [hg]; exact Nat.ne_of_lt (blk_lt (g := gb370) (o := .cells #[.int .i64 t366, .int .i64 t367, .int .i64 t368] 27 (0, 0)) (by (with_reducible repeat (first | refine blk_drewN ?_ _ | refine blk_drew ?_ | refine blk_alloc ?_ _)); exact BK370.out)) : gb370 ≠ gb385)); have n7_ := Aside0.mk ((by rw [hg]; exact Nat.ne_of_gt (blk_lt (g := gb370) (o := .cells #[.int .i64 t366, .int .i64 t367, .int .i64 t368] 27 (0, 0)) (by (with_reducible repeat (first | refine blk_drewN ?_ _ | refine blk_drew ?_ | refine blk_alloc ?_ _)); exact BK370.out)) : gb385 ≠ gb370)); have n8_ := Aside0.mk ((by rw [hg]; exact Nat.ne_of_lt (blk_lt (g := gb375) (o := .cells #[.int .i64 t371, .int .i64 t372, .int .i64 t373] 27 (0, 0)) (by (with_reducible repeat (first | refine blk_drewN ?_ _ | refine blk_drew ?_ | refine blk_alloc ?_ _)); exact BK375.out)) : gb375 ≠ gb385)); have n9_ := Aside0.mk ((by rw [hg]; exact Nat.ne_of_gt (blk_lt (g := gb375) (o := .cells #[.int .i64 t371, .int .i64 t372, .int .i64 t373] 27 (0, 0)) (by (with_reducible repeat (first | refine blk_drewN ?_ _ | refine blk_drew ?_ | refine blk_alloc ?_ _)); exact BK375.out)) : gb385 ≠ gb375)); clear BK370; clear BK375; clear HB; have BK370 := n0_; have BK375 := n1_; have HB := n2_; have BK385 := n3_; have GW385 := n4_; have GE385 := n5_; have NB370_385 := n6_; have NB385_370 := n7_; have NB375_385 := n8_; have NB385_375 := n9_; clear n0_ n1_ n2_ n3_ n4_ n5_ n6_ n7_ n8_ n9_; clear hb hbox hg; have hnb28 := NB385_370.out; have hnc28 := NB370_385.out; have hnb29 := NB385_375.out; have hnc29 := NB375_385.out; have hcz30_0 : w27.cell? ⟨gb385, 0, none⟩ = some (.int .i64 0) := (blk_cell BK385.out 0).trans rfl; have hcz30_1 : w27.cell? ⟨gb385, 1, none⟩ = some (.int .i64 0) := (blk_cell BK385.out 1).trans rfl; have hcz30_2 : w27.cell? ⟨gb385, 2, none⟩ = some (.int .i64 0) := (blk_cell BK385.out 2).trans rfl; have hfz30_0 := blk_frozen BK385.out 0; have hfz30_1 := blk_frozen BK385.out 1; have hfz30_2 := blk_frozen BK385.out 2) | ((with_reducible refine gate_callee (f := 14) rfl ?_); refine goesL_ (some 79) rfl rfl Tryd.func14 (by kernel_rfl) rfl #[.agg #[.int .i64 t382, .int .i64 t383, .int .i64 t384]] rfl (by (try simp only [List.map_toArray, List.map_cons, List.map_nil]); first | done | rfl | (simp only [List.length_drop, List.length_take]; rfl)) ?_; (with_reducible refine (impl_DateText.calls k t382 t383 t384 t386 t387 _ A11.out (tabAt_on hT (by repeat (first | (with_reducible first | exact HB.out | apply below_alloc | apply pw_below_drewN | apply below_drew1 | refine below_set ?_ (Aside0.out (by assumption))) | exact HB.out)))).mono ?_); rintro e w31 ⟨rfl, hb⟩; refine ⟨_, rfl, ?_⟩; have n0_ := Aside0.mk (blk_below (g := gb370) (o := .cells #[.int .i64 t366, .int .i64 t367, .int .i64 t368] 27 (0, 0)) (by (with_reducible repeat (first | refine blk_drewN ?_ _ | refine blk_drew ?_ | refine blk_alloc ?_ _)); refine blk_far ?_ NB370_385.out _; (with_reducible repeat (first | refine blk_drewN ?_ _ | refine blk_drew ?_ | refine blk_alloc ?_ _)); refine blk_far ?_ NB370_385.out _; (with_reducible repeat (first | refine blk_drewN ?_ _ | refine blk_drew ?_ | refine blk_alloc ?_ _)); refine blk_far ?_ NB370_385.out _; (with_reducible repeat (first | refine blk_drewN ?_ _ | refine blk_drew ?_ | refine blk_alloc ?_ _)); exact BK370.out) hb); have n1_ := Aside0.mk (blk_below (g := gb375) (o := .cells #[.int .i64 t371, .int .i64 t372, .int .i64 t373] 27 (0, 0)) (by (with_reducible repeat (first | refine blk_drewN ?_ _ | refine blk_drew ?_ | refine blk_alloc ?_ _)); refine blk_far ?_ NB375_385.out _; (with_reducible repeat (first | refine blk_drewN ?_ _ | refine blk_drew ?_ | refine blk_alloc ?_ _)); refine blk_far ?_ NB375_385.out _; (with_reducible repeat (first | refine blk_drewN ?_ _ | refine blk_drew ?_ | refine blk_alloc ?_ _)); refine blk_far ?_ NB375_385.out _; (with_reducible repeat (first | refine blk_drewN ?_ _ | refine blk_drew ?_ | refine blk_alloc ?_ _)); exact BK375.out) hb); have n2_ := Aside0.mk (blk_below (g := gb385) (o := .cells #[.int .i64 t382, .int .i64 t383, .int .i64 t384] 27 (0, 0)) (by (with_reducible repeat (first | refine blk_drewN ?_ _ | refine blk_drew ?_ | refine blk_alloc ?_ _)); refine blk_put (cs := #[.int .i64 t382, .int .i64 t383, .int .i64 0]) ?_ 2 _ rfl; (with_reducible repeat (first | refine blk_drewN ?_ _ | refine blk_drew ?_ | refine blk_alloc ?_ _)); refine blk_put (cs := #[.int .i64 t382, .int .i64 0, .int .i64 0]) ?_ 1 _ rfl; (with_reducible repeat (first | refine blk_drewN ?_ _ | refine blk_drew ?_ | refine blk_alloc ?_ _)); refine blk_put (cs := #[.int .i64 0, .int .i64 0, .int .i64 0]) ?_ 0 _ rfl; (with_reducible repeat (first | refine blk_drewN ?_ _ | refine blk_drew ?_ | refine blk_alloc ?_ _)); exact BK385.out) hb); have n3_ := Aside0.mk (below_step (by repeat (first | (with_reducible first | exact HB.out | apply below_alloc | apply pw_below_drewN | apply below_drew1 | refine below_set ?_ GE370.out | refine below_set ?_ GE375.out | refine below_set ?_ GE385.out) | exact HB.out)) hb); clear BK370; clear BK375; clear BK385; clear HB; have BK370 := n0_; have BK375 := n1_; have BK385 := n2_; have HB := n3_; clear n0_ n1_ n2_ n3_; (try clear hb); (try clear hb2); (try clear hk); (try clear hi); have hcz32_0 : w31.cell? ⟨gb385, 0, none⟩ = some (.int .i64 t382) := (blk_cell BK385.out 0).trans rfl; have hcz32_1 : w31.cell? ⟨gb385, 1, none⟩ = some (.int .i64 t383) := (blk_cell BK385.out 1).trans rfl; have hcz32_2 : w31.cell? ⟨gb385, 2, none⟩ = some (.int .i64 t384) := (blk_cell BK385.out 2).trans rfl; have hfz32_0 := blk_frozen BK385.out 0; have hfz32_1 := blk_frozen BK385.out 1; have hfz32_2 := blk_frozen BK385.out 2) | ((with_reducible refine gate_callee (f := 15) rfl ?_); refine goesL_ (some 84) rfl rfl Tryd.func15 (by kernel_rfl) rfl #[.agg #[.int .i64 t382, .int .i64 t383, .int .i64 t384]] rfl (by (try simp only [List.map_toArray, List.map_cons, List.map_nil]); first | done | rfl | (simp only [List.length_drop, List.length_take]; rfl)) ?_; (with_reducible refine (spec_DateText.calls k t382 t383 t384 t388 t389 _ A12.out).mono ?_); rintro e w33 ⟨rfl, hb⟩; refine ⟨_, rfl, ?_⟩; have n0_ := Aside0.mk (blk_below (g := gb370) (o := .cells #[.int .i64 t366, .int .i64 t367, .int .i64 t368] 27 (0, 0)) (by (with_reducible repeat (first | refine blk_drewN ?_ _ | refine blk_drew ?_ | refine blk_alloc ?_ _)); exact BK370.out) hb); have n1_ := Aside0.mk (blk_below (g := gb375) (o := .cells #[.int .i64 t371, .int .i64 t372, .int .i64 t373] 27 (0, 0)) (by (with_reducible repeat (first | refine blk_drewN ?_ _ | refine blk_drew ?_ | refine blk_alloc ?_ _)); exact BK375.out) hb); have n2_ := Aside0.mk (blk_below (g := gb385) (o := .cells #[.int .i64 t382, .int .i64 t383, .int .i64 t384] 27 (0, 0)) (by (with_reducible repeat (first | refine blk_drewN ?_ _ | refine blk_drew ?_ | refine blk_alloc ?_ _)); exact BK385.out) hb); have n3_ := Aside0.mk (below_step (by repeat (first | (with_reducible first | exact HB.out | apply below_alloc | apply pw_below_drewN | apply below_drew1 | refine below_set ?_ GE370.out | refine below_set ?_ GE375.out | refine below_set ?_ GE385.out) | exact HB.out)) hb); clear BK370; clear BK375; clear BK385; clear HB; have BK370 := n0_; have BK375 := n1_; have BK385 := n2_; have HB := n3_; clear n0_ n1_ n2_ n3_; (try clear hb); (try clear hb2); (try clear hk); (try clear hi)) | ((with_reducible refine gate_callee (f := 16) rfl ?_); refine goesL_ (some 88) rfl rfl Tryd.func16 (by kernel_rfl) rfl #[.slice A0 l0.length c0] rfl (by (try simp only [List.map_toArray, List.map_cons, List.map_nil]); first | done | rfl | (simp only [List.length_drop, List.length_take]; rfl)) ?_; (with_reducible refine (spec_DrawReadDate.calls k _ _ l0 t390 _ ?side1 ?side2 A13.out).mono ?_); (case side1 => repeat (first | exact (Kd.C_below HR0.out HB.out) | (with_reducible refine Kd.C_alloc ?_ _) | (with_reducible refine Kd.C_drewN ?_ _) | (with_reducible refine Kd.C_drew ?_))); (case side2 => exact HC0.out); rintro e w34 ⟨rfl, hb⟩; refine ⟨_, rfl, ?_⟩; have n0_ := Aside0.mk (blk_below (g := gb370) (o := .cells #[.int .i64 t366, .int .i64 t367, .int .i64 t368] 27 (0, 0)) (by (with_reducible repeat (first | refine blk_drewN ?_ _ | refine blk_drew ?_ | refine blk_alloc ?_ _)); exact BK370.out) hb); have n1_ := Aside0.mk (blk_below (g := gb375) (o := .cells #[.int .i64 t371, .int .i64 t372, .int .i64 t373] 27 (0, 0)) (by (with_reducible repeat (first | refine blk_drewN ?_ _ | refine blk_drew ?_ | refine blk_alloc ?_ _)); exact BK375.out) hb); have n2_ := Aside0.mk (blk_below (g := gb385) (o := .cells #[.int .i64 t382, .int .i64 t383, .int .i64 t384] 27 (0, 0)) (by (with_reducible repeat (first | refine blk_drewN ?_ _ | refine blk_drew ?_ | refine blk_alloc ?_ _)); exact BK385.out) hb); have n3_ := Aside0.mk (below_step (by repeat (first | (with_reducible first | exact HB.out | apply below_alloc | apply pw_below_drewN | apply below_drew1 | refine below_set ?_ GE370.out | refine below_set ?_ GE375.out | refine below_set ?_ GE385.out) | exact HB.out)) hb); clear BK370; clear BK375; clear BK385; clear HB; have BK370 := n0_; have BK375 := n1_; have BK385 := n2_; have HB := n3_; clear n0_ n1_ n2_ n3_; (try clear hb); (try clear hb2); (try clear hk); (try clear hi)) | ((with_reducible refine gate_callee (f := 17) rfl ?_); refine goesL_ (some 91) rfl rfl Tryd.func17 (by kernel_rfl) rfl #[.string t390] rfl (by (try simp only [List.map_toArray, List.map_cons, List.map_nil]); first | done | rfl | (simp only [List.length_drop, List.length_take]; rfl)) ?_; (with_reducible refine (impl_ReadDate.calls k t390 t391 t392 t393 t394 _ A14.out (tabAt_on hT (by repeat (first | (with_reducible first | exact HB.out | apply below_alloc | apply pw_below_drewN | apply below_drew1 | refine below_set ?_ (Aside0.out (by assumption))) | exact HB.out)))).mono ?_); rintro e w35 ⟨rfl, hb⟩; refine ⟨_, rfl, ?_⟩; have n0_ := Aside0.mk (blk_below (g := gb370) (o := .cells #[.int .i64 t366, .int .i64 t367, .int .i64 t368] 27 (0, 0)) (by (with_reducible repeat (first | refine blk_drewN ?_ _ | refine blk_drew ?_ | refine blk_alloc ?_ _)); exact BK370.out) hb); have n1_ := Aside0.mk (blk_below (g := gb375) (o := .cells #[.int .i64 t371, .int .i64 t372, .int .i64 t373] 27 (0, 0)) (by (with_reducible repeat (first | refine blk_drewN ?_ _ | refine blk_drew ?_ | refine blk_alloc ?_ _)); exact BK375.out) hb); have n2_ := Aside0.mk (blk_below (g := gb385) (o := .cells #[.int .i64 t382, .int .i64 t383, .int .i64 t384] 27 (0, 0)) (by (with_reducible repeat (first | refine blk_drewN ?_ _ | refine blk_drew ?_ | refine blk_alloc ?_ _)); exact BK385.out) hb); have n3_ := Aside0.mk (below_step (by repeat (first | (with_reducible first | exact HB.out | apply below_alloc | apply pw_below_drewN | apply below_drew1 | refine below_set ?_ GE370.out | refine below_set ?_ GE375.out | refine below_set ?_ GE385.out) | exact HB.out)) hb); clear BK370; clear BK375; clear BK385; clear HB; have BK370 := n0_; have BK375 := n1_; have BK385 := n2_; have HB := n3_; clear n0_ n1_ n2_ n3_; (try clear hb); (try clear hb2); (try clear hk); (try clear hi)) | ((with_reducible refine gate_dst (N := 23) rfl ?_); refine box_event ?hg (N := 23) ?hd (cs := #[.int .i64 0, .int .i64 0, .int .i64 0]) (t := 27) ?hr ?_; (case hd => rfl); (case hg => rfl); (case hr => first | (go_simp; done) | (go_simp; rfl)); intro gb395 hg w36 hbox hb; have n0_ := Aside0.mk (blk_below (g := gb370) (o := .cells #[.int .i64 t366, .int .i64 t367, .int .i64 t368] 27 (0, 0)) (by (with_reducible repeat (first | refine blk_drewN ?_ _ | refine blk_drew ?_ | refine blk_alloc ?_ _)); exact BK370.out) hb); have n1_ := Aside0.mk (blk_below (g := gb375) (o := .cells #[.int .i64 t371, .int .i64 t372, .int .i64 t373] 27 (0, 0)) (by (with_reducible repeat (first | refine blk_drewN ?_ _ | refine blk_drew ?_ | refine blk_alloc ?_ _)); exact BK375.out) hb); have n2_ := Aside0.mk (blk_below (g := gb385) (o := .cells #[.int .i64 t382, .int .i64 t383, .int .i64 t384] 27 (0, 0)) (by (with_reducible repeat (first | refine blk_drewN ?_ _ | refine blk_drew ?_ | refine blk_alloc ?_ _)); exact BK385.out) hb); have n3_ := Aside0.mk (below_step (by repeat (first | (with_reducible first | exact HB.out | apply below_alloc | apply pw_below_drewN | apply below_drew1 | refine below_set ?_ GE370.out | refine below_set ?_ GE375.out | refine below_set ?_ GE385.out) | exact HB.out)) hb); have n4_ := Aside0.mk (hbox); have n5_ := Aside0.mk ((by rw [hg]; exact (below_size (by repeat (first | (with_reducible first | exact HB.out | apply below_alloc | apply pw_below_drewN | apply below_drew1 | refine below_set ?_ GE370.out | refine below_set ?_ GE375.out | refine below_set ?_ GE385.out) | exact HB.out))) : w.heap.size ≤ gb395)); have n6_ := Aside0.mk ((by rw [hg]; exact (below_size (by repeat (first | (with_reducible first | exact HB.out | apply below_alloc | apply pw_below_drewN | apply below_drew1 | refine below_set ?_ GE370.out | refine below_set ?_ GE375.out | refine below_set ?_ GE385.out) | exact HB.out))) : w.heap.size ≤ gb395)); have n7_ := Aside0.mk ((by rw [hg]; exact Nat.ne_of_lt (blk_lt (g := gb370) (o := .cells #[.int .i64 t366, .int .i64 t367, .int .i64 t368] 27 (0, 0)) (by (with_reducible repeat (first | refine blk_drewN ?_ _ | refine blk_drew ?_ | refine blk_alloc ?_ _)); exact BK370.out)) : gb370 ≠ gb395)); have n8_ := Aside0.mk ((by rw [hg]; exact Nat.ne_of_gt (blk_lt (g := gb370) (o := .cells #[.int .i64 t366, .int .i64 t367, .int .i64 t368] 27 (0, 0)) (by (with_reducible repeat (first | refine blk_drewN ?_ _ | refine blk_drew ?_ | refine blk_alloc ?_ _)); exact BK370.out)) : gb395 ≠ gb370)); have n9_ := Aside0.mk ((by rw [hg]; exact Nat.ne_of_lt (blk_lt (g := gb375) (o := .cells #[.int .i64 t371, .int .i64 t372, .int .i64 t373] 27 (0, 0)) (by (with_reducible repeat (first | refine blk_drewN ?_ _ | refine blk_drew ?_ | refine blk_alloc ?_ _)); exact BK375.out)) : gb375 ≠ gb395)); have n10_ := Aside0.mk ((by rw [hg]; exact Nat.ne_of_gt (blk_lt (g := gb375) (o := .cells #[.int .i64 t371, .int .i64 t372, .int .i64 t373] 27 (0, 0)) (by (with_reducible repeat (first | refine blk_drewN ?_ _ | refine blk_drew ?_ | refine blk_alloc ?_ _)); exact BK375.out)) : gb395 ≠ gb375)); have n11_ := Aside0.mk ((by rw [hg]; exact Nat.ne_of_lt (blk_lt (g := gb385) (o := .cells #[.int .i64 t382, .int .i64 t383, .int .i64 t384] 27 (0, 0)) (by (with_reducible repeat (first | refine blk_drewN ?_ _ | refine blk_drew ?_ | refine blk_alloc ?_ _)); exact BK385.out)) : gb385 ≠ gb395)); have n12_ := Aside0.mk ((by rw [hg]; exact Nat.ne_of_gt (blk_lt (g := gb385) (o := .cells #[.int .i64 t382, .int .i64 t383, .int .i64 t384] 27 (0, 0)) (by (with_reducible repeat (first | refine blk_drewN ?_ _ | refine blk_drew ?_ | refine blk_alloc ?_ _)); exact BK385.out)) : gb395 ≠ gb385)); clear BK370; clear BK375; clear BK385; clear HB; have BK370 := n0_; have BK375 := n1_; have BK385 := n2_; have HB := n3_; have BK395 := n4_; have GW395 := n5_; have GE395 := n6_; have NB370_395 := n7_; have NB395_370 := n8_; have NB375_395 := n9_; have NB395_375 := n10_; have NB385_395 := n11_; have NB395_385 := n12_; clear n0_ n1_ n2_ n3_ n4_ n5_ n6_ n7_ n8_ n9_ n10_ n11_ n12_; clear hb hbox hg; have hnb37 := NB395_370.out; have hnc37 := NB370_395.out; have hnb38 := NB395_375.out; have hnc38 := NB375_395.out; have hnb39 := NB395_385.out; have hnc39 := NB385_395.out; have hcz40_0 : w36.cell? ⟨gb395, 0, none⟩ = some (.int .i64 0) := (blk_cell BK395.out 0).trans rfl; have hcz40_1 : w36.cell? ⟨gb395, 1, none⟩ = some (.int .i64 0) := (blk_cell BK395.out 1).trans rfl; have hcz40_2 : w36.cell? ⟨gb395, 2, none⟩ = some (.int .i64 0) := (blk_cell BK395.out 2).trans rfl; have hfz40_0 := blk_frozen BK395.out 0; have hfz40_1 := blk_frozen BK395.out 1; have hfz40_2 := blk_frozen BK395.out 2) | ((with_reducible refine gate_callee (f := 18) rfl ?_); refine goesL_ (some 96) rfl rfl Tryd.func18 (by kernel_rfl) rfl #[.string t390] rfl (by (try simp only [List.map_toArray, List.map_cons, List.map_nil]); first | done | rfl | (simp only [List.length_drop, List.length_take]; rfl)) ?_; (with_reducible refine (spec_ReadDate.calls k t390 t396 t397 t398 t399 _ A15.out).mono ?_); rintro e w41 ⟨rfl, hb⟩; refine ⟨_, rfl, ?_⟩; have n0_ := Aside0.mk (blk_below (g := gb370) (o := .cells #[.int .i64 t366, .int .i64 t367, .int .i64 t368] 27 (0, 0)) (by (with_reducible repeat (first | refine blk_drewN ?_ _ | refine blk_drew ?_ | refine blk_alloc ?_ _)); refine blk_far ?_ NB370_395.out _; (with_reducible repeat (first | refine blk_drewN ?_ _ | refine blk_drew ?_ | refine blk_alloc ?_ _)); refine blk_far ?_ NB370_395.out _; (with_reducible repeat (first | refine blk_drewN ?_ _ | refine blk_drew ?_ | refine blk_alloc ?_ _)); refine blk_far ?_ NB370_395.out _; (with_reducible repeat (first | refine blk_drewN ?_ _ | refine blk_drew ?_ | refine blk_alloc ?_ _)); exact BK370.out) hb); have n1_ := Aside0.mk (blk_below (g := gb375) (o := .cells #[.int .i64 t371, .int .i64 t372, .int .i64 t373] 27 (0, 0)) (by (with_reducible repeat (first | refine blk_drewN ?_ _ | refine blk_drew ?_ | refine blk_alloc ?_ _)); refine blk_far ?_ NB375_395.out _; (with_reducible repeat (first | refine blk_drewN ?_ _ | refine blk_drew ?_ | refine blk_alloc ?_ _)); refine blk_far ?_ NB375_395.out _; (with_reducible repeat (first | refine blk_drewN ?_ _ | refine blk_drew ?_ | refine blk_alloc ?_ _)); refine blk_far ?_ NB375_395.out _; (with_reducible repeat (first | refine blk_drewN ?_ _ | refine blk_drew ?_ | refine blk_alloc ?_ _)); exact BK375.out) hb); have n2_ := Aside0.mk (blk_below (g := gb385) (o := .cells #[.int .i64 t382, .int .i64 t383, .int .i64 t384] 27 (0, 0)) (by (with_reducible repeat (first | refine blk_drewN ?_ _ | refine blk_drew ?_ | refine blk_alloc ?_ _)); refine blk_far ?_ NB385_395.out _; (with_reducible repeat (first | refine blk_drewN ?_ _ | refine blk_drew ?_ | refine blk_alloc ?_ _)); refine blk_far ?_ NB385_395.out _; (with_reducible repeat (first | refine blk_drewN ?_ _ | refine blk_drew ?_ | refine blk_alloc ?_ _)); refine blk_far ?_ NB385_395.out _; (with_reducible repeat (first | refine blk_drewN ?_ _ | refine blk_drew ?_ | refine blk_alloc ?_ _)); exact BK385.out) hb); have n3_ := Aside0.mk (blk_below (g := gb395) (o := .cells #[.int .i64 t391, .int .i64 t392, .int .i64 t393] 27 (0, 0)) (by (with_reducible repeat (first | refine blk_drewN ?_ _ | refine blk_drew ?_ | refine blk_alloc ?_ _)); refine blk_put (cs := #[.int .i64 t391, .int .i64 t392, .int .i64 0]) ?_ 2 _ rfl; (with_reducible repeat (first | refine blk_drewN ?_ _ | refine blk_drew ?_ | refine blk_alloc ?_ _)); refine blk_put (cs := #[.int .i64 t391, .int .i64 0, .int .i64 0]) ?_ 1 _ rfl; (with_reducible repeat (first | refine blk_drewN ?_ _ | refine blk_drew ?_ | refine blk_alloc ?_ _)); refine blk_put (cs := #[.int .i64 0, .int .i64 0, .int .i64 0]) ?_ 0 _ rfl; (with_reducible repeat (first | refine blk_drewN ?_ _ | refine blk_drew ?_ | refine blk_alloc ?_ _)); exact BK395.out) hb); have n4_ := Aside0.mk (below_step (by repeat (first | (with_reducible first | exact HB.out | apply below_alloc | apply pw_below_drewN | apply below_drew1 | refine below_set ?_ GE370.out | refine below_set ?_ GE375.out | refine below_set ?_ GE385.out | refine below_set ?_ GE395.out) | exact HB.out)) hb); clear BK370; clear BK375; clear BK385; clear BK395; clear HB; have BK370 := n0_; have BK375 := n1_; have BK385 := n2_; have BK395 := n3_; have HB := n4_; clear n0_ n1_ n2_ n3_ n4_; (try clear hb); (try clear hb2); (try clear hk); (try clear hi)) | ((with_reducible refine gate_dst (N := 25) rfl ?_); refine box_event ?hg (N := 25) ?hd (cs := #[.int .i64 0, .int .i64 0, .int .i64 0]) (t := 27) ?hr ?_; (case hd => rfl); (case hg => rfl); (case hr => first | (go_simp; done) | (go_simp; rfl)); intro gb400 hg w42 hbox hb; have n0_ := Aside0.mk (blk_below (g := gb370) (o := .cells #[.int .i64 t366, .int .i64 t367, .int .i64 t368] 27 (0, 0)) (by (with_reducible repeat (first | refine blk_drewN ?_ _ | refine blk_drew ?_ | refine blk_alloc ?_ _)); exact BK370.out) hb); have n1_ := Aside0.mk (blk_below (g := gb375) (o := .cells #[.int .i64 t371, .int .i64 t372, .int .i64 t373] 27 (0, 0)) (by (with_reducible repeat (first | refine blk_drewN ?_ _ | refine blk_drew ?_ | refine blk_alloc ?_ _)); exact BK375.out) hb); have n2_ := Aside0.mk (blk_below (g := gb385) (o := .cells #[.int .i64 t382, .int .i64 t383, .int .i64 t384] 27 (0, 0)) (by (with_reducible repeat (first | refine blk_drewN ?_ _ | refine blk_drew ?_ | refine blk_alloc ?_ _)); exact BK385.out) hb); have n3_ := Aside0.mk (blk_below (g := gb395) (o := .cells #[.int .i64 t391, .int .i64 t392, .int .i64 t393] 27 (0, 0)) (by (with_reducible repeat (first | refine blk_drewN ?_ _ | refine blk_drew ?_ | refine blk_alloc ?_ _)); exact BK395.out) hb); have n4_ := Aside0.mk (below_step (by repeat (first | (with_reducible first | exact HB.out | apply below_alloc | apply pw_below_drewN | apply below_drew1 | refine below_set ?_ GE370.out | refine below_set ?_ GE375.out | refine below_set ?_ GE385.out | refine below_set ?_ GE395.out) | exact HB.out)) hb); have n5_ := Aside0.mk (hbox); have n6_ := Aside0.mk ((by rw [hg]; exact (below_size (by repeat (first | (with_reducible first | exact HB.out | apply below_alloc | apply pw_below_drewN | apply below_drew1 | refine below_set ?_ GE370.out | refine below_set ?_ GE375.out | refine below_set ?_ GE385.out | refine below_set ?_ GE395.out) | exact HB.out))) : w.heap.size ≤ gb400)); have n7_ := Aside0.mk ((by rw [hg]; exact (below_size (by repeat (first | (with_reducible first | exact HB.out | apply below_alloc | apply pw_below_drewN | apply below_drew1 | refine below_set ?_ GE370.out | refine below_set ?_ GE375.out | refine below_set ?_ GE385.out | refine below_set ?_ GE395.out) | exact HB.out))) : w.heap.size ≤ gb400)); have n8_ := Aside0.mk ((by rw [hg]; exact Nat.ne_of_lt (blk_lt (g := gb370) (o := .cells #[.int .i64 t366, .int .i64 t367, .int .i64 t368] 27 (0, 0)) (by (with_reducible repeat (first | refine blk_drewN ?_ _ | refine blk_drew ?_ | refine blk_alloc ?_ _)); exact BK370.out)) : gb370 ≠ gb400)); have n9_ := Aside0.mk ((by rw [hg]; exact Nat.ne_of_gt (blk_lt (g := gb370) (o := .cells #[.int .i64 t366, .int .i64 t367, .int .i64 t368] 27 (0, 0)) (by (with_reducible repeat (first | refine blk_drewN ?_ _ | refine blk_drew ?_ | refine blk_alloc ?_ _)); exact BK370.out)) : gb400 ≠ gb370)); have n10_ := Aside0.mk ((by rw [hg]; exact Nat.ne_of_lt (blk_lt (g := gb375) (o := .cells #[.int .i64 t371, .int .i64 t372, .int .i64 t373] 27 (0, 0)) (by (with_reducible repeat (first | refine blk_drewN ?_ _ | refine blk_drew ?_ | refine blk_alloc ?_ _)); exact BK375.out)) : gb375 ≠ gb400)); have n11_ := Aside0.mk ((by rw [hg]; exact Nat.ne_of_gt (blk_lt (g := gb375) (o := .cells #[.int .i64 t371, .int .i64 t372, .int .i64 t373] 27 (0, 0)) (by (with_reducible repeat (first | refine blk_drewN ?_ _ | refine blk_drew ?_ | refine blk_alloc ?_ _)); exact BK375.out)) : gb400 ≠ gb375)); have n12_ := Aside0.mk ((by rw [hg]; exact Nat.ne_of_lt (blk_lt (g := gb385) (o := .cells #[.int .i64 t382, .int .i64 t383, .int .i64 t384] 27 (0, 0)) (by (with_reducible repeat (first | refine blk_drewN ?_ _ | refine blk_drew ?_ | refine blk_alloc ?_ _)); exact BK385.out)) : gb385 ≠ gb400)); have n13_ := Aside0.mk ((by rw [hg]; exact Nat.ne_of_gt (blk_lt (g := gb385) (o := .cells #[.int .i64 t382, .int .i64 t383, .int .i64 t384] 27 (0, 0)) (by (with_reducible repeat (first | refine blk_drewN ?_ _ | refine blk_drew ?_ | refine blk_alloc ?_ _)); exact BK385.out)) : gb400 ≠ gb385)); have n14_ := Aside0.mk ((by rw [hg]; exact Nat.ne_of_lt (blk_lt (g := gb395) (o := .cells #[.int .i64 t391, .int .i64 t392, .int .i64 t393] 27 (0, 0)) (by (with_reducible repeat (first | refine blk_drewN ?_ _ | refine blk_drew ?_ | refine blk_alloc ?_ _)); exact BK395.out)) : gb395 ≠ gb400)); have n15_ := Aside0.mk ((by rw [hg]; exact Nat.ne_of_gt (blk_lt (g := gb395) (o := .cells #[.int .i64 t391, .int .i64 t392, .int .i64 t393] 27 (0, 0)) (by (with_reducible repeat (first | refine blk_drewN ?_ _ | refine blk_drew ?_ | refine blk_alloc ?_ _)); exact BK395.out)) : gb400 ≠ gb395)); clear BK370; clear BK375; clear BK385; clear BK395; clear HB; have BK370 := n0_; have BK375 := n1_; have BK385 := n2_; have BK395 := n3_; have HB := n4_; have BK400 := n5_; have GW400 := n6_; have GE400 := n7_; have NB370_400 := n8_; have NB400_370 := n9_; have NB375_400 := n10_; have NB400_375 := n11_; have NB385_400 := n12_; have NB400_385 := n13_; have NB395_400 := n14_; have NB400_395 := n15_; clear n0_ n1_ n2_ n3_ n4_ n5_ n6_ n7_ n8_ n9_ n10_ n11_ n12_ n13_ n14_ n15_; clear hb hbox hg; have hnb43 := NB400_370.out; have hnc43 := NB370_400.out; have hnb44 := NB400_375.out; have hnc44 := NB375_400.out; have hnb45 := NB400_385.out; have hnc45 := NB385_400.out; have hnb46 := NB400_395.out; have hnc46 := NB395_400.out; have hcz47_0 : w42.cell? ⟨gb400, 0, none⟩ = some (.int .i64 0) := (blk_cell BK400.out 0).trans rfl; have hcz47_1 : w42.cell? ⟨gb400, 1, none⟩ = some (.int .i64 0) := (blk_cell BK400.out 1).trans rfl; have hcz47_2 : w42.cell? ⟨gb400, 2, none⟩ = some (.int .i64 0) := (blk_cell BK400.out 2).trans rfl; have hfz47_0 := blk_frozen BK400.out 0; have hfz47_1 := blk_frozen BK400.out 1; have hfz47_2 := blk_frozen BK400.out 2))
    (try simp only [Act.put, List.setIfInBounds_toArray, List.set_cons_zero, List.set_cons_succ])
    go_cut [136] (fun v136 wc => ∃ (kq : Nat) (x136_15 : Bool), v136 = .bool x136_15 ∧ Aside0 (laws_FnMonths.j0 kq t362 t363 t364 t365 t369 t386 t387 x136_15 t366 t367 t368 t382 t383 t384 = some r) ∧ Aside0 (kq ≤ k) ∧ Aside0 (wc.heap[gb370]? = some (.cells #[.int .i64 t366, .int .i64 t367, .int .i64 t368] 27 (0, 0))) ∧ Aside0 (wc.heap[gb375]? = some (.cells #[.int .i64 t371, .int .i64 t372, .int .i64 t373] 27 (0, 0))) ∧ Aside0 (wc.heap[gb385]? = some (.cells #[.int .i64 t382, .int .i64 t383, .int .i64 t384] 27 (0, 0))) ∧ Aside0 (wc.heap[gb395]? = some (.cells #[.int .i64 t391, .int .i64 t392, .int .i64 t393] 27 (0, 0))) ∧ Aside0 (wc.heap[gb400]? = some (.cells #[.int .i64 t396, .int .i64 t397, .int .i64 t398] 27 (0, 0))) ∧ Aside0 (Below w.heap.size w wc))
    case first =>
      have H := HC16.out
      clear HC16
      by_cases c48 : t369 = t374
      · rw [if_pos c48] at H
        have c48b0 : (t369 == t374) = true := beq_iff_eq.mpr c48
        have c48b1 : (t369 != t374) = false := bne_eq_false_iff_eq.mpr c48
        clear c48
        (first | rw [c48b0] | (simp only [i64_w, i32_w]; rw [c48b0]) | skip)
        by_cases c49 : (!(t366 == t371) || (!(t367 == t372) || (!(t368 == t373)))) = true
        · rw [if_pos c49] at H
          have c49b0 : (!(t366 == t371) || (!(t367 == t372) || (!(t368 == t373)))) = true := c49
          clear c49
          have H' := Aside0.mk H
          clear H
          have hnb50 := NB370_375.out
          have hnc50 := NB375_370.out
          have hnb51 := NB370_385.out
          have hnc51 := NB385_370.out
          have hnb52 := NB370_395.out
          have hnc52 := NB395_370.out
          have hnb53 := NB370_400.out
          have hnc53 := NB400_370.out
          have hcz54_0 : w42.cell? ⟨gb370, 0, none⟩ = some (.int .i64 t366) := (blk_cell BK370.out 0).trans rfl
          have hcz54_1 : w42.cell? ⟨gb370, 1, none⟩ = some (.int .i64 t367) := (blk_cell BK370.out 1).trans rfl
          have hcz54_2 : w42.cell? ⟨gb370, 2, none⟩ = some (.int .i64 t368) := (blk_cell BK370.out 2).trans rfl
          have hfz54_0 := blk_frozen BK370.out 0
          have hfz54_1 := blk_frozen BK370.out 1
          have hfz54_2 := blk_frozen BK370.out 2
          have hnb55 := NB375_385.out
          have hnc55 := NB385_375.out
          have hnb56 := NB375_395.out
          have hnc56 := NB395_375.out
          have hnb57 := NB375_400.out
          have hnc57 := NB400_375.out
          have hcz58_0 : w42.cell? ⟨gb375, 0, none⟩ = some (.int .i64 t371) := (blk_cell BK375.out 0).trans rfl
          have hcz58_1 : w42.cell? ⟨gb375, 1, none⟩ = some (.int .i64 t372) := (blk_cell BK375.out 1).trans rfl
          have hcz58_2 : w42.cell? ⟨gb375, 2, none⟩ = some (.int .i64 t373) := (blk_cell BK375.out 2).trans rfl
          have hfz58_0 := blk_frozen BK375.out 0
          have hfz58_1 := blk_frozen BK375.out 1
          have hfz58_2 := blk_frozen BK375.out 2
          go_wp2
          go_meet
          case rel => exact ⟨_, (true), (by first | rfl | (simp; done) | (simp [*]; done)), H', ⟨by first | omega | exact Nat.le_refl _⟩, ⟨by (with_reducible repeat (first | refine blk_drewN ?_ _ | refine blk_drew ?_ | refine blk_alloc ?_ _)); refine blk_far ?_ NB370_400.out _; (with_reducible repeat (first | refine blk_drewN ?_ _ | refine blk_drew ?_ | refine blk_alloc ?_ _)); refine blk_far ?_ NB370_400.out _; (with_reducible repeat (first | refine blk_drewN ?_ _ | refine blk_drew ?_ | refine blk_alloc ?_ _)); refine blk_far ?_ NB370_400.out _; (with_reducible repeat (first | refine blk_drewN ?_ _ | refine blk_drew ?_ | refine blk_alloc ?_ _)); exact BK370.out⟩, ⟨by (with_reducible repeat (first | refine blk_drewN ?_ _ | refine blk_drew ?_ | refine blk_alloc ?_ _)); refine blk_far ?_ NB375_400.out _; (with_reducible repeat (first | refine blk_drewN ?_ _ | refine blk_drew ?_ | refine blk_alloc ?_ _)); refine blk_far ?_ NB375_400.out _; (with_reducible repeat (first | refine blk_drewN ?_ _ | refine blk_drew ?_ | refine blk_alloc ?_ _)); refine blk_far ?_ NB375_400.out _; (with_reducible repeat (first | refine blk_drewN ?_ _ | refine blk_drew ?_ | refine blk_alloc ?_ _)); exact BK375.out⟩, ⟨by (with_reducible repeat (first | refine blk_drewN ?_ _ | refine blk_drew ?_ | refine blk_alloc ?_ _)); refine blk_far ?_ NB385_400.out _; (with_reducible repeat (first | refine blk_drewN ?_ _ | refine blk_drew ?_ | refine blk_alloc ?_ _)); refine blk_far ?_ NB385_400.out _; (with_reducible repeat (first | refine blk_drewN ?_ _ | refine blk_drew ?_ | refine blk_alloc ?_ _)); refine blk_far ?_ NB385_400.out _; (with_reducible repeat (first | refine blk_drewN ?_ _ | refine blk_drew ?_ | refine blk_alloc ?_ _)); exact BK385.out⟩, ⟨by (with_reducible repeat (first | refine blk_drewN ?_ _ | refine blk_drew ?_ | refine blk_alloc ?_ _)); refine blk_far ?_ NB395_400.out _; (with_reducible repeat (first | refine blk_drewN ?_ _ | refine blk_drew ?_ | refine blk_alloc ?_ _)); refine blk_far ?_ NB395_400.out _; (with_reducible repeat (first | refine blk_drewN ?_ _ | refine blk_drew ?_ | refine blk_alloc ?_ _)); refine blk_far ?_ NB395_400.out _; (with_reducible repeat (first | refine blk_drewN ?_ _ | refine blk_drew ?_ | refine blk_alloc ?_ _)); exact BK395.out⟩, ⟨by (with_reducible repeat (first | refine blk_drewN ?_ _ | refine blk_drew ?_ | refine blk_alloc ?_ _)); refine blk_put (cs := #[.int .i64 t396, .int .i64 t397, .int .i64 0]) ?_ 2 _ rfl; (with_reducible repeat (first | refine blk_drewN ?_ _ | refine blk_drew ?_ | refine blk_alloc ?_ _)); refine blk_put (cs := #[.int .i64 t396, .int .i64 0, .int .i64 0]) ?_ 1 _ rfl; (with_reducible repeat (first | refine blk_drewN ?_ _ | refine blk_drew ?_ | refine blk_alloc ?_ _)); refine blk_put (cs := #[.int .i64 0, .int .i64 0, .int .i64 0]) ?_ 0 _ rfl; (with_reducible repeat (first | refine blk_drewN ?_ _ | refine blk_drew ?_ | refine blk_alloc ?_ _)); exact BK400.out⟩, ⟨by repeat (first | (with_reducible first | exact HB.out | apply below_alloc | apply pw_below_drewN | apply below_drew1 | refine below_set ?_ GE370.out | refine below_set ?_ GE375.out | refine below_set ?_ GE385.out | refine below_set ?_ GE395.out | refine below_set ?_ GE400.out) | exact HB.out)⟩⟩
        · rw [if_neg c49] at H
          have c49b0 : (!(t366 == t371) || (!(t367 == t372) || (!(t368 == t373)))) = false := by simpa using c49
          clear c49
          by_cases c59 : t379 = t381
          · rw [if_pos c59] at H
            have c59b0 : (t379 == t381) = true := beq_iff_eq.mpr c59
            have c59b1 : (t379 != t381) = false := bne_eq_false_iff_eq.mpr c59
            clear c59
            by_cases c60 : t378 = t380
            · rw [if_pos c60] at H
              have c60b0 : (t378 == t380) = true := beq_iff_eq.mpr c60
              have c60b1 : (t378 != t380) = false := bne_eq_false_iff_eq.mpr c60
              clear c60
              by_cases c61 : t387 = t389
              · rw [if_pos c61] at H
                have c61b0 : (t387 == t389) = true := beq_iff_eq.mpr c61
                have c61b1 : (t387 != t389) = false := bne_eq_false_iff_eq.mpr c61
                clear c61
                by_cases c62 : t386.toList = t388.toList
                · rw [if_pos c62] at H
                  have c62b0 : (t386.toList == t388.toList) = true := beq_iff_eq.mpr c62
                  have c62b1 : (t386.toList != t388.toList) = false := bne_eq_false_iff_eq.mpr c62
                  clear c62
                  by_cases c63 : t394 = t399
                  · rw [if_pos c63] at H
                    have c63b0 : (t394 == t399) = true := beq_iff_eq.mpr c63
                    have c63b1 : (t394 != t399) = false := bne_eq_false_iff_eq.mpr c63
                    clear c63
                    have H' := Aside0.mk H
                    clear H
                    have hnb64 := NB370_375.out
                    have hnc64 := NB375_370.out
                    have hnb65 := NB370_385.out
                    have hnc65 := NB385_370.out
                    have hnb66 := NB370_395.out
                    have hnc66 := NB395_370.out
                    have hnb67 := NB370_400.out
                    have hnc67 := NB400_370.out
                    have hcz68_0 : w42.cell? ⟨gb370, 0, none⟩ = some (.int .i64 t366) := (blk_cell BK370.out 0).trans rfl
                    have hcz68_1 : w42.cell? ⟨gb370, 1, none⟩ = some (.int .i64 t367) := (blk_cell BK370.out 1).trans rfl
                    have hcz68_2 : w42.cell? ⟨gb370, 2, none⟩ = some (.int .i64 t368) := (blk_cell BK370.out 2).trans rfl
                    have hfz68_0 := blk_frozen BK370.out 0
                    have hfz68_1 := blk_frozen BK370.out 1
                    have hfz68_2 := blk_frozen BK370.out 2
                    have hnb69 := NB375_385.out
                    have hnc69 := NB385_375.out
                    have hnb70 := NB375_395.out
                    have hnc70 := NB395_375.out
                    have hnb71 := NB375_400.out
                    have hnc71 := NB400_375.out
                    have hcz72_0 : w42.cell? ⟨gb375, 0, none⟩ = some (.int .i64 t371) := (blk_cell BK375.out 0).trans rfl
                    have hcz72_1 : w42.cell? ⟨gb375, 1, none⟩ = some (.int .i64 t372) := (blk_cell BK375.out 1).trans rfl
                    have hcz72_2 : w42.cell? ⟨gb375, 2, none⟩ = some (.int .i64 t373) := (blk_cell BK375.out 2).trans rfl
                    have hfz72_0 := blk_frozen BK375.out 0
                    have hfz72_1 := blk_frozen BK375.out 1
                    have hfz72_2 := blk_frozen BK375.out 2
                    have hnb73 := NB395_385.out
                    have hnc73 := NB385_395.out
                    have hnb74 := NB395_400.out
                    have hnc74 := NB400_395.out
                    have hcz75_0 : w42.cell? ⟨gb395, 0, none⟩ = some (.int .i64 t391) := (blk_cell BK395.out 0).trans rfl
                    have hcz75_1 : w42.cell? ⟨gb395, 1, none⟩ = some (.int .i64 t392) := (blk_cell BK395.out 1).trans rfl
                    have hcz75_2 : w42.cell? ⟨gb395, 2, none⟩ = some (.int .i64 t393) := (blk_cell BK395.out 2).trans rfl
                    have hfz75_0 := blk_frozen BK395.out 0
                    have hfz75_1 := blk_frozen BK395.out 1
                    have hfz75_2 := blk_frozen BK395.out 2
                    have hnb76 := NB400_385.out
                    have hnc76 := NB385_400.out
                    have hcz77_0 : w42.cell? ⟨gb400, 0, none⟩ = some (.int .i64 0) := (blk_cell BK400.out 0).trans rfl
                    have hcz77_1 : w42.cell? ⟨gb400, 1, none⟩ = some (.int .i64 0) := (blk_cell BK400.out 1).trans rfl
                    have hcz77_2 : w42.cell? ⟨gb400, 2, none⟩ = some (.int .i64 0) := (blk_cell BK400.out 2).trans rfl
                    have hfz77_0 := blk_frozen BK400.out 0
                    have hfz77_1 := blk_frozen BK400.out 1
                    have hfz77_2 := blk_frozen BK400.out 2
                    go_wp2
                    go_meet
                    case rel => exact ⟨_, ((!(t391 == t396) || (!(t392 == t397) || (!(t393 == t398))))), (by first | rfl | (simp; done) | (simp [*]; done)), H', ⟨by first | omega | exact Nat.le_refl _⟩, ⟨by (with_reducible repeat (first | refine blk_drewN ?_ _ | refine blk_drew ?_ | refine blk_alloc ?_ _)); refine blk_far ?_ NB370_400.out _; (with_reducible repeat (first | refine blk_drewN ?_ _ | refine blk_drew ?_ | refine blk_alloc ?_ _)); refine blk_far ?_ NB370_400.out _; (with_reducible repeat (first | refine blk_drewN ?_ _ | refine blk_drew ?_ | refine blk_alloc ?_ _)); refine blk_far ?_ NB370_400.out _; (with_reducible repeat (first | refine blk_drewN ?_ _ | refine blk_drew ?_ | refine blk_alloc ?_ _)); exact BK370.out⟩, ⟨by (with_reducible repeat (first | refine blk_drewN ?_ _ | refine blk_drew ?_ | refine blk_alloc ?_ _)); refine blk_far ?_ NB375_400.out _; (with_reducible repeat (first | refine blk_drewN ?_ _ | refine blk_drew ?_ | refine blk_alloc ?_ _)); refine blk_far ?_ NB375_400.out _; (with_reducible repeat (first | refine blk_drewN ?_ _ | refine blk_drew ?_ | refine blk_alloc ?_ _)); refine blk_far ?_ NB375_400.out _; (with_reducible repeat (first | refine blk_drewN ?_ _ | refine blk_drew ?_ | refine blk_alloc ?_ _)); exact BK375.out⟩, ⟨by (with_reducible repeat (first | refine blk_drewN ?_ _ | refine blk_drew ?_ | refine blk_alloc ?_ _)); refine blk_far ?_ NB385_400.out _; (with_reducible repeat (first | refine blk_drewN ?_ _ | refine blk_drew ?_ | refine blk_alloc ?_ _)); refine blk_far ?_ NB385_400.out _; (with_reducible repeat (first | refine blk_drewN ?_ _ | refine blk_drew ?_ | refine blk_alloc ?_ _)); refine blk_far ?_ NB385_400.out _; (with_reducible repeat (first | refine blk_drewN ?_ _ | refine blk_drew ?_ | refine blk_alloc ?_ _)); exact BK385.out⟩, ⟨by (with_reducible repeat (first | refine blk_drewN ?_ _ | refine blk_drew ?_ | refine blk_alloc ?_ _)); refine blk_far ?_ NB395_400.out _; (with_reducible repeat (first | refine blk_drewN ?_ _ | refine blk_drew ?_ | refine blk_alloc ?_ _)); refine blk_far ?_ NB395_400.out _; (with_reducible repeat (first | refine blk_drewN ?_ _ | refine blk_drew ?_ | refine blk_alloc ?_ _)); refine blk_far ?_ NB395_400.out _; (with_reducible repeat (first | refine blk_drewN ?_ _ | refine blk_drew ?_ | refine blk_alloc ?_ _)); exact BK395.out⟩, ⟨by (with_reducible repeat (first | refine blk_drewN ?_ _ | refine blk_drew ?_ | refine blk_alloc ?_ _)); refine blk_put (cs := #[.int .i64 t396, .int .i64 t397, .int .i64 0]) ?_ 2 _ rfl; (with_reducible repeat (first | refine blk_drewN ?_ _ | refine blk_drew ?_ | refine blk_alloc ?_ _)); refine blk_put (cs := #[.int .i64 t396, .int .i64 0, .int .i64 0]) ?_ 1 _ rfl; (with_reducible repeat (first | refine blk_drewN ?_ _ | refine blk_drew ?_ | refine blk_alloc ?_ _)); refine blk_put (cs := #[.int .i64 0, .int .i64 0, .int .i64 0]) ?_ 0 _ rfl; (with_reducible repeat (first | refine blk_drewN ?_ _ | refine blk_drew ?_ | refine blk_alloc ?_ _)); exact BK400.out⟩, ⟨by repeat (first | (with_reducible first | exact HB.out | apply below_alloc | apply pw_below_drewN | apply below_drew1 | refine below_set ?_ GE370.out | refine below_set ?_ GE375.out | refine below_set ?_ GE385.out | refine below_set ?_ GE395.out | refine below_set ?_ GE400.out) | exact HB.out)⟩⟩
                  · rw [if_neg c63] at H
                    have c63b0 : (t394 == t399) = false := beq_eq_false_iff_ne.mpr c63
                    have c63b1 : (t394 != t399) = true := bne_iff_ne.mpr c63
                    have H' := Aside0.mk H
                    clear H
                    have hnb78 := NB370_375.out
                    have hnc78 := NB375_370.out
                    have hnb79 := NB370_385.out
                    have hnc79 := NB385_370.out
                    have hnb80 := NB370_395.out
                    have hnc80 := NB395_370.out
                    have hnb81 := NB370_400.out
                    have hnc81 := NB400_370.out
                    have hcz82_0 : w42.cell? ⟨gb370, 0, none⟩ = some (.int .i64 t366) := (blk_cell BK370.out 0).trans rfl
                    have hcz82_1 : w42.cell? ⟨gb370, 1, none⟩ = some (.int .i64 t367) := (blk_cell BK370.out 1).trans rfl
                    have hcz82_2 : w42.cell? ⟨gb370, 2, none⟩ = some (.int .i64 t368) := (blk_cell BK370.out 2).trans rfl
                    have hfz82_0 := blk_frozen BK370.out 0
                    have hfz82_1 := blk_frozen BK370.out 1
                    have hfz82_2 := blk_frozen BK370.out 2
                    have hnb83 := NB375_385.out
                    have hnc83 := NB385_375.out
                    have hnb84 := NB375_395.out
                    have hnc84 := NB395_375.out
                    have hnb85 := NB375_400.out
                    have hnc85 := NB400_375.out
                    have hcz86_0 : w42.cell? ⟨gb375, 0, none⟩ = some (.int .i64 t371) := (blk_cell BK375.out 0).trans rfl
                    have hcz86_1 : w42.cell? ⟨gb375, 1, none⟩ = some (.int .i64 t372) := (blk_cell BK375.out 1).trans rfl
                    have hcz86_2 : w42.cell? ⟨gb375, 2, none⟩ = some (.int .i64 t373) := (blk_cell BK375.out 2).trans rfl
                    have hfz86_0 := blk_frozen BK375.out 0
                    have hfz86_1 := blk_frozen BK375.out 1
                    have hfz86_2 := blk_frozen BK375.out 2
                    go_wp2
                    go_meet
                    case rel => exact ⟨_, (true), (by first | rfl | (simp; done) | (simp [*]; done)), H', ⟨by first | omega | exact Nat.le_refl _⟩, ⟨by (with_reducible repeat (first | refine blk_drewN ?_ _ | refine blk_drew ?_ | refine blk_alloc ?_ _)); refine blk_far ?_ NB370_400.out _; (with_reducible repeat (first | refine blk_drewN ?_ _ | refine blk_drew ?_ | refine blk_alloc ?_ _)); refine blk_far ?_ NB370_400.out _; (with_reducible repeat (first | refine blk_drewN ?_ _ | refine blk_drew ?_ | refine blk_alloc ?_ _)); refine blk_far ?_ NB370_400.out _; (with_reducible repeat (first | refine blk_drewN ?_ _ | refine blk_drew ?_ | refine blk_alloc ?_ _)); exact BK370.out⟩, ⟨by (with_reducible repeat (first | refine blk_drewN ?_ _ | refine blk_drew ?_ | refine blk_alloc ?_ _)); refine blk_far ?_ NB375_400.out _; (with_reducible repeat (first | refine blk_drewN ?_ _ | refine blk_drew ?_ | refine blk_alloc ?_ _)); refine blk_far ?_ NB375_400.out _; (with_reducible repeat (first | refine blk_drewN ?_ _ | refine blk_drew ?_ | refine blk_alloc ?_ _)); refine blk_far ?_ NB375_400.out _; (with_reducible repeat (first | refine blk_drewN ?_ _ | refine blk_drew ?_ | refine blk_alloc ?_ _)); exact BK375.out⟩, ⟨by (with_reducible repeat (first | refine blk_drewN ?_ _ | refine blk_drew ?_ | refine blk_alloc ?_ _)); refine blk_far ?_ NB385_400.out _; (with_reducible repeat (first | refine blk_drewN ?_ _ | refine blk_drew ?_ | refine blk_alloc ?_ _)); refine blk_far ?_ NB385_400.out _; (with_reducible repeat (first | refine blk_drewN ?_ _ | refine blk_drew ?_ | refine blk_alloc ?_ _)); refine blk_far ?_ NB385_400.out _; (with_reducible repeat (first | refine blk_drewN ?_ _ | refine blk_drew ?_ | refine blk_alloc ?_ _)); exact BK385.out⟩, ⟨by (with_reducible repeat (first | refine blk_drewN ?_ _ | refine blk_drew ?_ | refine blk_alloc ?_ _)); refine blk_far ?_ NB395_400.out _; (with_reducible repeat (first | refine blk_drewN ?_ _ | refine blk_drew ?_ | refine blk_alloc ?_ _)); refine blk_far ?_ NB395_400.out _; (with_reducible repeat (first | refine blk_drewN ?_ _ | refine blk_drew ?_ | refine blk_alloc ?_ _)); refine blk_far ?_ NB395_400.out _; (with_reducible repeat (first | refine blk_drewN ?_ _ | refine blk_drew ?_ | refine blk_alloc ?_ _)); exact BK395.out⟩, ⟨by (with_reducible repeat (first | refine blk_drewN ?_ _ | refine blk_drew ?_ | refine blk_alloc ?_ _)); refine blk_put (cs := #[.int .i64 t396, .int .i64 t397, .int .i64 0]) ?_ 2 _ rfl; (with_reducible repeat (first | refine blk_drewN ?_ _ | refine blk_drew ?_ | refine blk_alloc ?_ _)); refine blk_put (cs := #[.int .i64 t396, .int .i64 0, .int .i64 0]) ?_ 1 _ rfl; (with_reducible repeat (first | refine blk_drewN ?_ _ | refine blk_drew ?_ | refine blk_alloc ?_ _)); refine blk_put (cs := #[.int .i64 0, .int .i64 0, .int .i64 0]) ?_ 0 _ rfl; (with_reducible repeat (first | refine blk_drewN ?_ _ | refine blk_drew ?_ | refine blk_alloc ?_ _)); exact BK400.out⟩, ⟨by repeat (first | (with_reducible first | exact HB.out | apply below_alloc | apply pw_below_drewN | apply below_drew1 | refine below_set ?_ GE370.out | refine below_set ?_ GE375.out | refine below_set ?_ GE385.out | refine below_set ?_ GE395.out | refine below_set ?_ GE400.out) | exact HB.out)⟩⟩
                · rw [if_neg c62] at H
                  have c62b0 : (t386.toList == t388.toList) = false := beq_eq_false_iff_ne.mpr c62
                  have c62b1 : (t386.toList != t388.toList) = true := bne_iff_ne.mpr c62
                  have H' := Aside0.mk H
                  clear H
                  have hnb87 := NB370_375.out
                  have hnc87 := NB375_370.out
                  have hnb88 := NB370_385.out
                  have hnc88 := NB385_370.out
                  have hnb89 := NB370_395.out
                  have hnc89 := NB395_370.out
                  have hnb90 := NB370_400.out
                  have hnc90 := NB400_370.out
                  have hcz91_0 : w42.cell? ⟨gb370, 0, none⟩ = some (.int .i64 t366) := (blk_cell BK370.out 0).trans rfl
                  have hcz91_1 : w42.cell? ⟨gb370, 1, none⟩ = some (.int .i64 t367) := (blk_cell BK370.out 1).trans rfl
                  have hcz91_2 : w42.cell? ⟨gb370, 2, none⟩ = some (.int .i64 t368) := (blk_cell BK370.out 2).trans rfl
                  have hfz91_0 := blk_frozen BK370.out 0
                  have hfz91_1 := blk_frozen BK370.out 1
                  have hfz91_2 := blk_frozen BK370.out 2
                  have hnb92 := NB375_385.out
                  have hnc92 := NB385_375.out
                  have hnb93 := NB375_395.out
                  have hnc93 := NB395_375.out
                  have hnb94 := NB375_400.out
                  have hnc94 := NB400_375.out
                  have hcz95_0 : w42.cell? ⟨gb375, 0, none⟩ = some (.int .i64 t371) := (blk_cell BK375.out 0).trans rfl
                  have hcz95_1 : w42.cell? ⟨gb375, 1, none⟩ = some (.int .i64 t372) := (blk_cell BK375.out 1).trans rfl
                  have hcz95_2 : w42.cell? ⟨gb375, 2, none⟩ = some (.int .i64 t373) := (blk_cell BK375.out 2).trans rfl
                  have hfz95_0 := blk_frozen BK375.out 0
                  have hfz95_1 := blk_frozen BK375.out 1
                  have hfz95_2 := blk_frozen BK375.out 2
                  go_wp2
                  go_meet
                  case rel => exact ⟨_, (true), (by first | rfl | (simp; done) | (simp [*]; done)), H', ⟨by first | omega | exact Nat.le_refl _⟩, ⟨by (with_reducible repeat (first | refine blk_drewN ?_ _ | refine blk_drew ?_ | refine blk_alloc ?_ _)); refine blk_far ?_ NB370_400.out _; (with_reducible repeat (first | refine blk_drewN ?_ _ | refine blk_drew ?_ | refine blk_alloc ?_ _)); refine blk_far ?_ NB370_400.out _; (with_reducible repeat (first | refine blk_drewN ?_ _ | refine blk_drew ?_ | refine blk_alloc ?_ _)); refine blk_far ?_ NB370_400.out _; (with_reducible repeat (first | refine blk_drewN ?_ _ | refine blk_drew ?_ | refine blk_alloc ?_ _)); exact BK370.out⟩, ⟨by (with_reducible repeat (first | refine blk_drewN ?_ _ | refine blk_drew ?_ | refine blk_alloc ?_ _)); refine blk_far ?_ NB375_400.out _; (with_reducible repeat (first | refine blk_drewN ?_ _ | refine blk_drew ?_ | refine blk_alloc ?_ _)); refine blk_far ?_ NB375_400.out _; (with_reducible repeat (first | refine blk_drewN ?_ _ | refine blk_drew ?_ | refine blk_alloc ?_ _)); refine blk_far ?_ NB375_400.out _; (with_reducible repeat (first | refine blk_drewN ?_ _ | refine blk_drew ?_ | refine blk_alloc ?_ _)); exact BK375.out⟩, ⟨by (with_reducible repeat (first | refine blk_drewN ?_ _ | refine blk_drew ?_ | refine blk_alloc ?_ _)); refine blk_far ?_ NB385_400.out _; (with_reducible repeat (first | refine blk_drewN ?_ _ | refine blk_drew ?_ | refine blk_alloc ?_ _)); refine blk_far ?_ NB385_400.out _; (with_reducible repeat (first | refine blk_drewN ?_ _ | refine blk_drew ?_ | refine blk_alloc ?_ _)); refine blk_far ?_ NB385_400.out _; (with_reducible repeat (first | refine blk_drewN ?_ _ | refine blk_drew ?_ | refine blk_alloc ?_ _)); exact BK385.out⟩, ⟨by (with_reducible repeat (first | refine blk_drewN ?_ _ | refine blk_drew ?_ | refine blk_alloc ?_ _)); refine blk_far ?_ NB395_400.out _; (with_reducible repeat (first | refine blk_drewN ?_ _ | refine blk_drew ?_ | refine blk_alloc ?_ _)); refine blk_far ?_ NB395_400.out _; (with_reducible repeat (first | refine blk_drewN ?_ _ | refine blk_drew ?_ | refine blk_alloc ?_ _)); refine blk_far ?_ NB395_400.out _; (with_reducible repeat (first | refine blk_drewN ?_ _ | refine blk_drew ?_ | refine blk_alloc ?_ _)); exact BK395.out⟩, ⟨by (with_reducible repeat (first | refine blk_drewN ?_ _ | refine blk_drew ?_ | refine blk_alloc ?_ _)); refine blk_put (cs := #[.int .i64 t396, .int .i64 t397, .int .i64 0]) ?_ 2 _ rfl; (with_reducible repeat (first | refine blk_drewN ?_ _ | refine blk_drew ?_ | refine blk_alloc ?_ _)); refine blk_put (cs := #[.int .i64 t396, .int .i64 0, .int .i64 0]) ?_ 1 _ rfl; (with_reducible repeat (first | refine blk_drewN ?_ _ | refine blk_drew ?_ | refine blk_alloc ?_ _)); refine blk_put (cs := #[.int .i64 0, .int .i64 0, .int .i64 0]) ?_ 0 _ rfl; (with_reducible repeat (first | refine blk_drewN ?_ _ | refine blk_drew ?_ | refine blk_alloc ?_ _)); exact BK400.out⟩, ⟨by repeat (first | (with_reducible first | exact HB.out | apply below_alloc | apply pw_below_drewN | apply below_drew1 | refine below_set ?_ GE370.out | refine below_set ?_ GE375.out | refine below_set ?_ GE385.out | refine below_set ?_ GE395.out | refine below_set ?_ GE400.out) | exact HB.out)⟩⟩
              · rw [if_neg c61] at H
                have c61b0 : (t387 == t389) = false := beq_eq_false_iff_ne.mpr c61
                have c61b1 : (t387 != t389) = true := bne_iff_ne.mpr c61
                have H' := Aside0.mk H
                clear H
                have hnb96 := NB370_375.out
                have hnc96 := NB375_370.out
                have hnb97 := NB370_385.out
                have hnc97 := NB385_370.out
                have hnb98 := NB370_395.out
                have hnc98 := NB395_370.out
                have hnb99 := NB370_400.out
                have hnc99 := NB400_370.out
                have hcz100_0 : w42.cell? ⟨gb370, 0, none⟩ = some (.int .i64 t366) := (blk_cell BK370.out 0).trans rfl
                have hcz100_1 : w42.cell? ⟨gb370, 1, none⟩ = some (.int .i64 t367) := (blk_cell BK370.out 1).trans rfl
                have hcz100_2 : w42.cell? ⟨gb370, 2, none⟩ = some (.int .i64 t368) := (blk_cell BK370.out 2).trans rfl
                have hfz100_0 := blk_frozen BK370.out 0
                have hfz100_1 := blk_frozen BK370.out 1
                have hfz100_2 := blk_frozen BK370.out 2
                have hnb101 := NB375_385.out
                have hnc101 := NB385_375.out
                have hnb102 := NB375_395.out
                have hnc102 := NB395_375.out
                have hnb103 := NB375_400.out
                have hnc103 := NB400_375.out
                have hcz104_0 : w42.cell? ⟨gb375, 0, none⟩ = some (.int .i64 t371) := (blk_cell BK375.out 0).trans rfl
                have hcz104_1 : w42.cell? ⟨gb375, 1, none⟩ = some (.int .i64 t372) := (blk_cell BK375.out 1).trans rfl
                have hcz104_2 : w42.cell? ⟨gb375, 2, none⟩ = some (.int .i64 t373) := (blk_cell BK375.out 2).trans rfl
                have hfz104_0 := blk_frozen BK375.out 0
                have hfz104_1 := blk_frozen BK375.out 1
                have hfz104_2 := blk_frozen BK375.out 2
                go_wp2
                go_meet
                case rel => exact ⟨_, (true), (by first | rfl | (simp; done) | (simp [*]; done)), H', ⟨by first | omega | exact Nat.le_refl _⟩, ⟨by (with_reducible repeat (first | refine blk_drewN ?_ _ | refine blk_drew ?_ | refine blk_alloc ?_ _)); refine blk_far ?_ NB370_400.out _; (with_reducible repeat (first | refine blk_drewN ?_ _ | refine blk_drew ?_ | refine blk_alloc ?_ _)); refine blk_far ?_ NB370_400.out _; (with_reducible repeat (first | refine blk_drewN ?_ _ | refine blk_drew ?_ | refine blk_alloc ?_ _)); refine blk_far ?_ NB370_400.out _; (with_reducible repeat (first | refine blk_drewN ?_ _ | refine blk_drew ?_ | refine blk_alloc ?_ _)); exact BK370.out⟩, ⟨by (with_reducible repeat (first | refine blk_drewN ?_ _ | refine blk_drew ?_ | refine blk_alloc ?_ _)); refine blk_far ?_ NB375_400.out _; (with_reducible repeat (first | refine blk_drewN ?_ _ | refine blk_drew ?_ | refine blk_alloc ?_ _)); refine blk_far ?_ NB375_400.out _; (with_reducible repeat (first | refine blk_drewN ?_ _ | refine blk_drew ?_ | refine blk_alloc ?_ _)); refine blk_far ?_ NB375_400.out _; (with_reducible repeat (first | refine blk_drewN ?_ _ | refine blk_drew ?_ | refine blk_alloc ?_ _)); exact BK375.out⟩, ⟨by (with_reducible repeat (first | refine blk_drewN ?_ _ | refine blk_drew ?_ | refine blk_alloc ?_ _)); refine blk_far ?_ NB385_400.out _; (with_reducible repeat (first | refine blk_drewN ?_ _ | refine blk_drew ?_ | refine blk_alloc ?_ _)); refine blk_far ?_ NB385_400.out _; (with_reducible repeat (first | refine blk_drewN ?_ _ | refine blk_drew ?_ | refine blk_alloc ?_ _)); refine blk_far ?_ NB385_400.out _; (with_reducible repeat (first | refine blk_drewN ?_ _ | refine blk_drew ?_ | refine blk_alloc ?_ _)); exact BK385.out⟩, ⟨by (with_reducible repeat (first | refine blk_drewN ?_ _ | refine blk_drew ?_ | refine blk_alloc ?_ _)); refine blk_far ?_ NB395_400.out _; (with_reducible repeat (first | refine blk_drewN ?_ _ | refine blk_drew ?_ | refine blk_alloc ?_ _)); refine blk_far ?_ NB395_400.out _; (with_reducible repeat (first | refine blk_drewN ?_ _ | refine blk_drew ?_ | refine blk_alloc ?_ _)); refine blk_far ?_ NB395_400.out _; (with_reducible repeat (first | refine blk_drewN ?_ _ | refine blk_drew ?_ | refine blk_alloc ?_ _)); exact BK395.out⟩, ⟨by (with_reducible repeat (first | refine blk_drewN ?_ _ | refine blk_drew ?_ | refine blk_alloc ?_ _)); refine blk_put (cs := #[.int .i64 t396, .int .i64 t397, .int .i64 0]) ?_ 2 _ rfl; (with_reducible repeat (first | refine blk_drewN ?_ _ | refine blk_drew ?_ | refine blk_alloc ?_ _)); refine blk_put (cs := #[.int .i64 t396, .int .i64 0, .int .i64 0]) ?_ 1 _ rfl; (with_reducible repeat (first | refine blk_drewN ?_ _ | refine blk_drew ?_ | refine blk_alloc ?_ _)); refine blk_put (cs := #[.int .i64 0, .int .i64 0, .int .i64 0]) ?_ 0 _ rfl; (with_reducible repeat (first | refine blk_drewN ?_ _ | refine blk_drew ?_ | refine blk_alloc ?_ _)); exact BK400.out⟩, ⟨by repeat (first | (with_reducible first | exact HB.out | apply below_alloc | apply pw_below_drewN | apply below_drew1 | refine below_set ?_ GE370.out | refine below_set ?_ GE375.out | refine below_set ?_ GE385.out | refine below_set ?_ GE395.out | refine below_set ?_ GE400.out) | exact HB.out)⟩⟩
            · rw [if_neg c60] at H
              have c60b0 : (t378 == t380) = false := beq_eq_false_iff_ne.mpr c60
              have c60b1 : (t378 != t380) = true := bne_iff_ne.mpr c60
              have H' := Aside0.mk H
              clear H
              have hnb105 := NB370_375.out
              have hnc105 := NB375_370.out
              have hnb106 := NB370_385.out
              have hnc106 := NB385_370.out
              have hnb107 := NB370_395.out
              have hnc107 := NB395_370.out
              have hnb108 := NB370_400.out
              have hnc108 := NB400_370.out
              have hcz109_0 : w42.cell? ⟨gb370, 0, none⟩ = some (.int .i64 t366) := (blk_cell BK370.out 0).trans rfl
              have hcz109_1 : w42.cell? ⟨gb370, 1, none⟩ = some (.int .i64 t367) := (blk_cell BK370.out 1).trans rfl
              have hcz109_2 : w42.cell? ⟨gb370, 2, none⟩ = some (.int .i64 t368) := (blk_cell BK370.out 2).trans rfl
              have hfz109_0 := blk_frozen BK370.out 0
              have hfz109_1 := blk_frozen BK370.out 1
              have hfz109_2 := blk_frozen BK370.out 2
              have hnb110 := NB375_385.out
              have hnc110 := NB385_375.out
              have hnb111 := NB375_395.out
              have hnc111 := NB395_375.out
              have hnb112 := NB375_400.out
              have hnc112 := NB400_375.out
              have hcz113_0 : w42.cell? ⟨gb375, 0, none⟩ = some (.int .i64 t371) := (blk_cell BK375.out 0).trans rfl
              have hcz113_1 : w42.cell? ⟨gb375, 1, none⟩ = some (.int .i64 t372) := (blk_cell BK375.out 1).trans rfl
              have hcz113_2 : w42.cell? ⟨gb375, 2, none⟩ = some (.int .i64 t373) := (blk_cell BK375.out 2).trans rfl
              have hfz113_0 := blk_frozen BK375.out 0
              have hfz113_1 := blk_frozen BK375.out 1
              have hfz113_2 := blk_frozen BK375.out 2
              go_wp2
              go_meet
              case rel => exact ⟨_, (true), (by first | rfl | (simp; done) | (simp [*]; done)), H', ⟨by first | omega | exact Nat.le_refl _⟩, ⟨by (with_reducible repeat (first | refine blk_drewN ?_ _ | refine blk_drew ?_ | refine blk_alloc ?_ _)); refine blk_far ?_ NB370_400.out _; (with_reducible repeat (first | refine blk_drewN ?_ _ | refine blk_drew ?_ | refine blk_alloc ?_ _)); refine blk_far ?_ NB370_400.out _; (with_reducible repeat (first | refine blk_drewN ?_ _ | refine blk_drew ?_ | refine blk_alloc ?_ _)); refine blk_far ?_ NB370_400.out _; (with_reducible repeat (first | refine blk_drewN ?_ _ | refine blk_drew ?_ | refine blk_alloc ?_ _)); exact BK370.out⟩, ⟨by (with_reducible repeat (first | refine blk_drewN ?_ _ | refine blk_drew ?_ | refine blk_alloc ?_ _)); refine blk_far ?_ NB375_400.out _; (with_reducible repeat (first | refine blk_drewN ?_ _ | refine blk_drew ?_ | refine blk_alloc ?_ _)); refine blk_far ?_ NB375_400.out _; (with_reducible repeat (first | refine blk_drewN ?_ _ | refine blk_drew ?_ | refine blk_alloc ?_ _)); refine blk_far ?_ NB375_400.out _; (with_reducible repeat (first | refine blk_drewN ?_ _ | refine blk_drew ?_ | refine blk_alloc ?_ _)); exact BK375.out⟩, ⟨by (with_reducible repeat (first | refine blk_drewN ?_ _ | refine blk_drew ?_ | refine blk_alloc ?_ _)); refine blk_far ?_ NB385_400.out _; (with_reducible repeat (first | refine blk_drewN ?_ _ | refine blk_drew ?_ | refine blk_alloc ?_ _)); refine blk_far ?_ NB385_400.out _; (with_reducible repeat (first | refine blk_drewN ?_ _ | refine blk_drew ?_ | refine blk_alloc ?_ _)); refine blk_far ?_ NB385_400.out _; (with_reducible repeat (first | refine blk_drewN ?_ _ | refine blk_drew ?_ | refine blk_alloc ?_ _)); exact BK385.out⟩, ⟨by (with_reducible repeat (first | refine blk_drewN ?_ _ | refine blk_drew ?_ | refine blk_alloc ?_ _)); refine blk_far ?_ NB395_400.out _; (with_reducible repeat (first | refine blk_drewN ?_ _ | refine blk_drew ?_ | refine blk_alloc ?_ _)); refine blk_far ?_ NB395_400.out _; (with_reducible repeat (first | refine blk_drewN ?_ _ | refine blk_drew ?_ | refine blk_alloc ?_ _)); refine blk_far ?_ NB395_400.out _; (with_reducible repeat (first | refine blk_drewN ?_ _ | refine blk_drew ?_ | refine blk_alloc ?_ _)); exact BK395.out⟩, ⟨by (with_reducible repeat (first | refine blk_drewN ?_ _ | refine blk_drew ?_ | refine blk_alloc ?_ _)); refine blk_put (cs := #[.int .i64 t396, .int .i64 t397, .int .i64 0]) ?_ 2 _ rfl; (with_reducible repeat (first | refine blk_drewN ?_ _ | refine blk_drew ?_ | refine blk_alloc ?_ _)); refine blk_put (cs := #[.int .i64 t396, .int .i64 0, .int .i64 0]) ?_ 1 _ rfl; (with_reducible repeat (first | refine blk_drewN ?_ _ | refine blk_drew ?_ | refine blk_alloc ?_ _)); refine blk_put (cs := #[.int .i64 0, .int .i64 0, .int .i64 0]) ?_ 0 _ rfl; (with_reducible repeat (first | refine blk_drewN ?_ _ | refine blk_drew ?_ | refine blk_alloc ?_ _)); exact BK400.out⟩, ⟨by repeat (first | (with_reducible first | exact HB.out | apply below_alloc | apply pw_below_drewN | apply below_drew1 | refine below_set ?_ GE370.out | refine below_set ?_ GE375.out | refine below_set ?_ GE385.out | refine below_set ?_ GE395.out | refine below_set ?_ GE400.out) | exact HB.out)⟩⟩
          · rw [if_neg c59] at H
            have c59b0 : (t379 == t381) = false := beq_eq_false_iff_ne.mpr c59
            have c59b1 : (t379 != t381) = true := bne_iff_ne.mpr c59
            have H' := Aside0.mk H
            clear H
            have hnb114 := NB370_375.out
            have hnc114 := NB375_370.out
            have hnb115 := NB370_385.out
            have hnc115 := NB385_370.out
            have hnb116 := NB370_395.out
            have hnc116 := NB395_370.out
            have hnb117 := NB370_400.out
            have hnc117 := NB400_370.out
            have hcz118_0 : w42.cell? ⟨gb370, 0, none⟩ = some (.int .i64 t366) := (blk_cell BK370.out 0).trans rfl
            have hcz118_1 : w42.cell? ⟨gb370, 1, none⟩ = some (.int .i64 t367) := (blk_cell BK370.out 1).trans rfl
            have hcz118_2 : w42.cell? ⟨gb370, 2, none⟩ = some (.int .i64 t368) := (blk_cell BK370.out 2).trans rfl
            have hfz118_0 := blk_frozen BK370.out 0
            have hfz118_1 := blk_frozen BK370.out 1
            have hfz118_2 := blk_frozen BK370.out 2
            have hnb119 := NB375_385.out
            have hnc119 := NB385_375.out
            have hnb120 := NB375_395.out
            have hnc120 := NB395_375.out
            have hnb121 := NB375_400.out
            have hnc121 := NB400_375.out
            have hcz122_0 : w42.cell? ⟨gb375, 0, none⟩ = some (.int .i64 t371) := (blk_cell BK375.out 0).trans rfl
            have hcz122_1 : w42.cell? ⟨gb375, 1, none⟩ = some (.int .i64 t372) := (blk_cell BK375.out 1).trans rfl
            have hcz122_2 : w42.cell? ⟨gb375, 2, none⟩ = some (.int .i64 t373) := (blk_cell BK375.out 2).trans rfl
            have hfz122_0 := blk_frozen BK375.out 0
            have hfz122_1 := blk_frozen BK375.out 1
            have hfz122_2 := blk_frozen BK375.out 2
            go_wp2
            go_meet
            case rel => exact ⟨_, (true), (by first | rfl | (simp; done) | (simp [*]; done)), H', ⟨by first | omega | exact Nat.le_refl _⟩, ⟨by (with_reducible repeat (first | refine blk_drewN ?_ _ | refine blk_drew ?_ | refine blk_alloc ?_ _)); refine blk_far ?_ NB370_400.out _; (with_reducible repeat (first | refine blk_drewN ?_ _ | refine blk_drew ?_ | refine blk_alloc ?_ _)); refine blk_far ?_ NB370_400.out _; (with_reducible repeat (first | refine blk_drewN ?_ _ | refine blk_drew ?_ | refine blk_alloc ?_ _)); refine blk_far ?_ NB370_400.out _; (with_reducible repeat (first | refine blk_drewN ?_ _ | refine blk_drew ?_ | refine blk_alloc ?_ _)); exact BK370.out⟩, ⟨by (with_reducible repeat (first | refine blk_drewN ?_ _ | refine blk_drew ?_ | refine blk_alloc ?_ _)); refine blk_far ?_ NB375_400.out _; (with_reducible repeat (first | refine blk_drewN ?_ _ | refine blk_drew ?_ | refine blk_alloc ?_ _)); refine blk_far ?_ NB375_400.out _; (with_reducible repeat (first | refine blk_drewN ?_ _ | refine blk_drew ?_ | refine blk_alloc ?_ _)); refine blk_far ?_ NB375_400.out _; (with_reducible repeat (first | refine blk_drewN ?_ _ | refine blk_drew ?_ | refine blk_alloc ?_ _)); exact BK375.out⟩, ⟨by (with_reducible repeat (first | refine blk_drewN ?_ _ | refine blk_drew ?_ | refine blk_alloc ?_ _)); refine blk_far ?_ NB385_400.out _; (with_reducible repeat (first | refine blk_drewN ?_ _ | refine blk_drew ?_ | refine blk_alloc ?_ _)); refine blk_far ?_ NB385_400.out _; (with_reducible repeat (first | refine blk_drewN ?_ _ | refine blk_drew ?_ | refine blk_alloc ?_ _)); refine blk_far ?_ NB385_400.out _; (with_reducible repeat (first | refine blk_drewN ?_ _ | refine blk_drew ?_ | refine blk_alloc ?_ _)); exact BK385.out⟩, ⟨by (with_reducible repeat (first | refine blk_drewN ?_ _ | refine blk_drew ?_ | refine blk_alloc ?_ _)); refine blk_far ?_ NB395_400.out _; (with_reducible repeat (first | refine blk_drewN ?_ _ | refine blk_drew ?_ | refine blk_alloc ?_ _)); refine blk_far ?_ NB395_400.out _; (with_reducible repeat (first | refine blk_drewN ?_ _ | refine blk_drew ?_ | refine blk_alloc ?_ _)); refine blk_far ?_ NB395_400.out _; (with_reducible repeat (first | refine blk_drewN ?_ _ | refine blk_drew ?_ | refine blk_alloc ?_ _)); exact BK395.out⟩, ⟨by (with_reducible repeat (first | refine blk_drewN ?_ _ | refine blk_drew ?_ | refine blk_alloc ?_ _)); refine blk_put (cs := #[.int .i64 t396, .int .i64 t397, .int .i64 0]) ?_ 2 _ rfl; (with_reducible repeat (first | refine blk_drewN ?_ _ | refine blk_drew ?_ | refine blk_alloc ?_ _)); refine blk_put (cs := #[.int .i64 t396, .int .i64 0, .int .i64 0]) ?_ 1 _ rfl; (with_reducible repeat (first | refine blk_drewN ?_ _ | refine blk_drew ?_ | refine blk_alloc ?_ _)); refine blk_put (cs := #[.int .i64 0, .int .i64 0, .int .i64 0]) ?_ 0 _ rfl; (with_reducible repeat (first | refine blk_drewN ?_ _ | refine blk_drew ?_ | refine blk_alloc ?_ _)); exact BK400.out⟩, ⟨by repeat (first | (with_reducible first | exact HB.out | apply below_alloc | apply pw_below_drewN | apply below_drew1 | refine below_set ?_ GE370.out | refine below_set ?_ GE375.out | refine below_set ?_ GE385.out | refine below_set ?_ GE395.out | refine below_set ?_ GE400.out) | exact HB.out)⟩⟩
      · rw [if_neg c48] at H
        have c48b0 : (t369 == t374) = false := beq_eq_false_iff_ne.mpr c48
        have c48b1 : (t369 != t374) = true := bne_iff_ne.mpr c48
        (first | rw [c48b0] | (simp only [i64_w, i32_w]; rw [c48b0]) | skip)
        have H' := Aside0.mk H
        clear H
        go_wp2
        go_meet
        case rel => exact ⟨_, (true), (by first | rfl | (simp; done) | (simp [*]; done)), H', ⟨by first | omega | exact Nat.le_refl _⟩, ⟨by (with_reducible repeat (first | refine blk_drewN ?_ _ | refine blk_drew ?_ | refine blk_alloc ?_ _)); refine blk_far ?_ NB370_400.out _; (with_reducible repeat (first | refine blk_drewN ?_ _ | refine blk_drew ?_ | refine blk_alloc ?_ _)); refine blk_far ?_ NB370_400.out _; (with_reducible repeat (first | refine blk_drewN ?_ _ | refine blk_drew ?_ | refine blk_alloc ?_ _)); refine blk_far ?_ NB370_400.out _; (with_reducible repeat (first | refine blk_drewN ?_ _ | refine blk_drew ?_ | refine blk_alloc ?_ _)); exact BK370.out⟩, ⟨by (with_reducible repeat (first | refine blk_drewN ?_ _ | refine blk_drew ?_ | refine blk_alloc ?_ _)); refine blk_far ?_ NB375_400.out _; (with_reducible repeat (first | refine blk_drewN ?_ _ | refine blk_drew ?_ | refine blk_alloc ?_ _)); refine blk_far ?_ NB375_400.out _; (with_reducible repeat (first | refine blk_drewN ?_ _ | refine blk_drew ?_ | refine blk_alloc ?_ _)); refine blk_far ?_ NB375_400.out _; (with_reducible repeat (first | refine blk_drewN ?_ _ | refine blk_drew ?_ | refine blk_alloc ?_ _)); exact BK375.out⟩, ⟨by (with_reducible repeat (first | refine blk_drewN ?_ _ | refine blk_drew ?_ | refine blk_alloc ?_ _)); refine blk_far ?_ NB385_400.out _; (with_reducible repeat (first | refine blk_drewN ?_ _ | refine blk_drew ?_ | refine blk_alloc ?_ _)); refine blk_far ?_ NB385_400.out _; (with_reducible repeat (first | refine blk_drewN ?_ _ | refine blk_drew ?_ | refine blk_alloc ?_ _)); refine blk_far ?_ NB385_400.out _; (with_reducible repeat (first | refine blk_drewN ?_ _ | refine blk_drew ?_ | refine blk_alloc ?_ _)); exact BK385.out⟩, ⟨by (with_reducible repeat (first | refine blk_drewN ?_ _ | refine blk_drew ?_ | refine blk_alloc ?_ _)); refine blk_far ?_ NB395_400.out _; (with_reducible repeat (first | refine blk_drewN ?_ _ | refine blk_drew ?_ | refine blk_alloc ?_ _)); refine blk_far ?_ NB395_400.out _; (with_reducible repeat (first | refine blk_drewN ?_ _ | refine blk_drew ?_ | refine blk_alloc ?_ _)); refine blk_far ?_ NB395_400.out _; (with_reducible repeat (first | refine blk_drewN ?_ _ | refine blk_drew ?_ | refine blk_alloc ?_ _)); exact BK395.out⟩, ⟨by (with_reducible repeat (first | refine blk_drewN ?_ _ | refine blk_drew ?_ | refine blk_alloc ?_ _)); refine blk_put (cs := #[.int .i64 t396, .int .i64 t397, .int .i64 0]) ?_ 2 _ rfl; (with_reducible repeat (first | refine blk_drewN ?_ _ | refine blk_drew ?_ | refine blk_alloc ?_ _)); refine blk_put (cs := #[.int .i64 t396, .int .i64 0, .int .i64 0]) ?_ 1 _ rfl; (with_reducible repeat (first | refine blk_drewN ?_ _ | refine blk_drew ?_ | refine blk_alloc ?_ _)); refine blk_put (cs := #[.int .i64 0, .int .i64 0, .int .i64 0]) ?_ 0 _ rfl; (with_reducible repeat (first | refine blk_drewN ?_ _ | refine blk_drew ?_ | refine blk_alloc ?_ _)); exact BK400.out⟩, ⟨by repeat (first | (with_reducible first | exact HB.out | apply below_alloc | apply pw_below_drewN | apply below_drew1 | refine below_set ?_ GE370.out | refine below_set ?_ GE375.out | refine below_set ?_ GE385.out | refine below_set ?_ GE395.out | refine below_set ?_ GE400.out) | exact HB.out)⟩⟩
    case rest =>
      clear HC16
      try clear c1
      try clear c2
      try clear p2
      try clear c3
      try clear c4
      try clear c5
      try clear c6
      try clear c7
      try clear c8
      try clear c9
      try clear c10
      try clear c11
      try clear c12
      try clear c13
      try clear c14
      try clear c15
      try clear c16
      try clear c17
      try clear c18
      try clear c23
      try clear c28
      try clear c29
      try clear c37
      try clear c38
      try clear c39
      try clear c43
      try clear c44
      try clear c45
      try clear c46
      try clear c48
      try clear c48b0
      try clear c48b1
      try clear c49
      try clear c49b0
      try clear c50
      try clear c51
      try clear c52
      try clear c53
      try clear c55
      try clear c56
      try clear c57
      try clear c59
      try clear c59b0
      try clear c59b1
      try clear c60
      try clear c60b0
      try clear c60b1
      try clear c61
      try clear c61b0
      try clear c61b1
      try clear c62
      try clear c62b0
      try clear c62b1
      try clear c63
      try clear c63b0
      try clear c63b1
      try clear c64
      try clear c65
      try clear c66
      try clear c67
      try clear c69
      try clear c70
      try clear c71
      try clear c73
      try clear c74
      try clear c76
      try clear c78
      try clear c79
      try clear c80
      try clear c81
      try clear c83
      try clear c84
      try clear c85
      try clear c87
      try clear c88
      try clear c89
      try clear c90
      try clear c92
      try clear c93
      try clear c94
      try clear c96
      try clear c97
      try clear c98
      try clear c99
      try clear c101
      try clear c102
      try clear c103
      try clear c105
      try clear c106
      try clear c107
      try clear c108
      try clear c110
      try clear c111
      try clear c112
      try clear c114
      try clear c115
      try clear c116
      try clear c117
      try clear c119
      try clear c120
      try clear c121
      try clear hcz100_0
      try clear hcz100_1
      try clear hcz100_2
      try clear hcz104_0
      try clear hcz104_1
      try clear hcz104_2
      try clear hcz109_0
      try clear hcz109_1
      try clear hcz109_2
      try clear hcz113_0
      try clear hcz113_1
      try clear hcz113_2
      try clear hcz118_0
      try clear hcz118_1
      try clear hcz118_2
      try clear hcz122_0
      try clear hcz122_1
      try clear hcz122_2
      try clear hcz20_0
      try clear hcz20_1
      try clear hcz20_2
      try clear hcz24_0
      try clear hcz24_1
      try clear hcz24_2
      try clear hcz30_0
      try clear hcz30_1
      try clear hcz30_2
      try clear hcz32_0
      try clear hcz32_1
      try clear hcz32_2
      try clear hcz40_0
      try clear hcz40_1
      try clear hcz40_2
      try clear hcz47_0
      try clear hcz47_1
      try clear hcz47_2
      try clear hcz54_0
      try clear hcz54_1
      try clear hcz54_2
      try clear hcz58_0
      try clear hcz58_1
      try clear hcz58_2
      try clear hcz68_0
      try clear hcz68_1
      try clear hcz68_2
      try clear hcz72_0
      try clear hcz72_1
      try clear hcz72_2
      try clear hcz75_0
      try clear hcz75_1
      try clear hcz75_2
      try clear hcz77_0
      try clear hcz77_1
      try clear hcz77_2
      try clear hcz82_0
      try clear hcz82_1
      try clear hcz82_2
      try clear hcz86_0
      try clear hcz86_1
      try clear hcz86_2
      try clear hcz91_0
      try clear hcz91_1
      try clear hcz91_2
      try clear hcz95_0
      try clear hcz95_1
      try clear hcz95_2
      try clear hfz100_0
      try clear hfz100_1
      try clear hfz100_2
      try clear hfz104_0
      try clear hfz104_1
      try clear hfz104_2
      try clear hfz109_0
      try clear hfz109_1
      try clear hfz109_2
      try clear hfz113_0
      try clear hfz113_1
      try clear hfz113_2
      try clear hfz118_0
      try clear hfz118_1
      try clear hfz118_2
      try clear hfz122_0
      try clear hfz122_1
      try clear hfz122_2
      try clear hfz20_0
      try clear hfz20_1
      try clear hfz20_2
      try clear hfz24_0
      try clear hfz24_1
      try clear hfz24_2
      try clear hfz30_0
      try clear hfz30_1
      try clear hfz30_2
      try clear hfz32_0
      try clear hfz32_1
      try clear hfz32_2
      try clear hfz40_0
      try clear hfz40_1
      try clear hfz40_2
      try clear hfz47_0
      try clear hfz47_1
      try clear hfz47_2
      try clear hfz54_0
      try clear hfz54_1
      try clear hfz54_2
      try clear hfz58_0
      try clear hfz58_1
      try clear hfz58_2
      try clear hfz68_0
      try clear hfz68_1
      try clear hfz68_2
      try clear hfz72_0
      try clear hfz72_1
      try clear hfz72_2
      try clear hfz75_0
      try clear hfz75_1
      try clear hfz75_2
      try clear hfz77_0
      try clear hfz77_1
      try clear hfz77_2
      try clear hfz82_0
      try clear hfz82_1
      try clear hfz82_2
      try clear hfz86_0
      try clear hfz86_1
      try clear hfz86_2
      try clear hfz91_0
      try clear hfz91_1
      try clear hfz91_2
      try clear hfz95_0
      try clear hfz95_1
      try clear hfz95_2
      obtain ⟨kq, x136_15, rfl, HA, HJ15, BK370, BK375, BK385, BK395, BK400, HB⟩ := hcut
      cases kq with
      | zero => exact absurd HA.out (by simp [laws_FnMonths.j0])
      | succ kj15 =>
        have H := HA.out
        clear HA
        simp only [laws_FnMonths.j0] at H
        by_cases c123 : x136_15 = true
        · subst c123
          have H1 : (some false) = some r := by rw [if_pos rfl] at H; exact H
          clear H
          have H := H1
          clear H1
          obtain rfl := Option.some.inj H
          go_wp2
          go_ret
          exact ⟨by first | rfl | (simp [errW_none, errW_some] <;> rfl) | (simp [*, errW_none, errW_some] <;> rfl), by repeat (first | (with_reducible first | exact HB.out | apply below_alloc | apply pw_below_drewN | apply below_drew1 | refine below_set ?_ GE370.out | refine below_set ?_ GE375.out | refine below_set ?_ GE385.out | refine below_set ?_ GE395.out | refine below_set ?_ GE400.out) | exact HB.out)⟩
        · replace c123 := Bool.eq_false_iff.mpr c123
          subst c123
          have H1 : (if t387 = 0 then ((impl_ReadDate.f kj15 t386).bind fun bt401 => (if bt401.2.2.2 = 0 then (if (!(bt401.1 == t382) || (!(bt401.2.1 == t383) || (!(bt401.2.2.1 == t384)))) = true then (some false) else (laws_FnMonths.j1 kj15 t362 t363 t364 t365 t369 t366 t367 t368)) else (some false))) else (laws_FnMonths.j1 kj15 t362 t363 t364 t365 t369 t366 t367 t368)) = some r := by rw [if_neg (show ¬ (false = true) by decide)] at H; exact H
          clear H
          have H := H1
          clear H1
          have HC124 := Aside0.mk H
          clear H
          go_upto_if 138 with (fail)
          go_cut [] (fun wc => ∃ (kq : Nat), Aside0 (laws_FnMonths.j1 kq t362 t363 t364 t365 t369 t366 t367 t368 = some r) ∧ Aside0 (kq ≤ kj15) ∧ Aside0 (wc.heap[gb370]? = some (.cells #[.int .i64 t366, .int .i64 t367, .int .i64 t368] 27 (0, 0))) ∧ Aside0 (wc.heap[gb375]? = some (.cells #[.int .i64 t371, .int .i64 t372, .int .i64 t373] 27 (0, 0))) ∧ Aside0 (wc.heap[gb385]? = some (.cells #[.int .i64 t382, .int .i64 t383, .int .i64 t384] 27 (0, 0))) ∧ Aside0 (wc.heap[gb395]? = some (.cells #[.int .i64 t391, .int .i64 t392, .int .i64 t393] 27 (0, 0))) ∧ Aside0 (wc.heap[gb400]? = some (.cells #[.int .i64 t396, .int .i64 t397, .int .i64 t398] 27 (0, 0))) ∧ Aside0 (Below w.heap.size w wc))
          case first =>
            have H := HC124.out
            clear HC124
            by_cases c125 : t387 = 0
            · rw [if_pos c125] at H
              have c125b0 : (t387 == 0) = true := beq_iff_eq.mpr c125
              have c125b1 : (t387 != 0) = false := bne_eq_false_iff_eq.mpr c125
              clear c125
              (first | rw [c125b0] | (simp only [i64_w, i32_w]; rw [c125b0]) | skip)
              replace H := Option.bind_eq_some_iff.mp H
              obtain ⟨⟨t401, t402, t403, t404⟩, A1260, H⟩ := H
              replace H : (if t404 = 0 then (if (!(t401 == t382) || (!(t402 == t383) || (!(t403 == t384)))) = true then (some false) else (laws_FnMonths.j1 kj15 t362 t363 t364 t365 t369 t366 t367 t368)) else (some false)) = some r := H
              have A126 := Aside0.mk A1260
              clear A1260
              by_cases c127 : t404 = 0
              · rw [if_pos c127] at H
                have c127b0 : (t404 == 0) = true := beq_iff_eq.mpr c127
                have c127b1 : (t404 != 0) = false := bne_eq_false_iff_eq.mpr c127
                clear c127
                by_cases c128 : (!(t401 == t382) || (!(t402 == t383) || (!(t403 == t384)))) = true
                · rw [if_pos c128] at H
                  have c128b0 : (!(t401 == t382) || (!(t402 == t383) || (!(t403 == t384)))) = true := c128
                  clear c128
                  obtain rfl := Option.some.inj H
                  go_wp2_with (first | ((with_reducible refine gate_callee (f := 17) rfl ?_); refine goesL_ (some 141) rfl rfl Tryd.func17 (by kernel_rfl) rfl #[.string t386] rfl (by (try simp only [List.map_toArray, List.map_cons, List.map_nil]); first | done | rfl | (simp only [List.length_drop, List.length_take]; rfl)) ?_; (with_reducible refine (impl_ReadDate.calls kj15 t386 t401 t402 t403 t404 _ A126.out (tabAt_on hT (by repeat (first | (with_reducible first | exact HB.out | apply below_alloc | apply pw_below_drewN | apply below_drew1 | refine below_set ?_ (Aside0.out (by assumption))) | exact HB.out)))).mono ?_); rintro e w129 ⟨rfl, hb⟩; refine ⟨_, rfl, ?_⟩; have n0_ := Aside0.mk (blk_below (g := gb370) (o := .cells #[.int .i64 t366, .int .i64 t367, .int .i64 t368] 27 (0, 0)) (by (with_reducible repeat (first | refine blk_drewN ?_ _ | refine blk_drew ?_ | refine blk_alloc ?_ _)); exact BK370.out) hb); have n1_ := Aside0.mk (blk_below (g := gb375) (o := .cells #[.int .i64 t371, .int .i64 t372, .int .i64 t373] 27 (0, 0)) (by (with_reducible repeat (first | refine blk_drewN ?_ _ | refine blk_drew ?_ | refine blk_alloc ?_ _)); exact BK375.out) hb); have n2_ := Aside0.mk (blk_below (g := gb385) (o := .cells #[.int .i64 t382, .int .i64 t383, .int .i64 t384] 27 (0, 0)) (by (with_reducible repeat (first | refine blk_drewN ?_ _ | refine blk_drew ?_ | refine blk_alloc ?_ _)); exact BK385.out) hb); have n3_ := Aside0.mk (blk_below (g := gb395) (o := .cells #[.int .i64 t391, .int .i64 t392, .int .i64 t393] 27 (0, 0)) (by (with_reducible repeat (first | refine blk_drewN ?_ _ | refine blk_drew ?_ | refine blk_alloc ?_ _)); exact BK395.out) hb); have n4_ := Aside0.mk (blk_below (g := gb400) (o := .cells #[.int .i64 t396, .int .i64 t397, .int .i64 t398] 27 (0, 0)) (by (with_reducible repeat (first | refine blk_drewN ?_ _ | refine blk_drew ?_ | refine blk_alloc ?_ _)); exact BK400.out) hb); have n5_ := Aside0.mk (below_step (by repeat (first | (with_reducible first | exact HB.out | apply below_alloc | apply pw_below_drewN | apply below_drew1 | refine below_set ?_ GE370.out | refine below_set ?_ GE375.out | refine below_set ?_ GE385.out | refine below_set ?_ GE395.out | refine below_set ?_ GE400.out) | exact HB.out)) hb); clear BK370; clear BK375; clear BK385; clear BK395; clear BK400; clear HB; have BK370 := n0_; have BK375 := n1_; have BK385 := n2_; have BK395 := n3_; have BK400 := n4_; have HB := n5_; clear n0_ n1_ n2_ n3_ n4_ n5_; (try clear hb); (try clear hb2); (try clear hk); (try clear hi)) | ((with_reducible refine gate_dst (N := 27) rfl ?_); refine box_event ?hg (N := 27) ?hd (cs := #[.int .i64 0, .int .i64 0, .int .i64 0]) (t := 27) ?hr ?_; (case hd => rfl); (case hg => rfl); (case hr => first | (go_simp; done) | (go_simp; rfl)); intro gb405 hg w130 hbox hb; have n0_ := Aside0.mk (blk_below (g := gb370) (o := .cells #[.int .i64 t366, .int .i64 t367, .int .i64 t368] 27 (0, 0)) (by (with_reducible repeat (first | refine blk_drewN ?_ _ | refine blk_drew ?_ | refine blk_alloc ?_ _)); exact BK370.out) hb); have n1_ := Aside0.mk (blk_below (g := gb375) (o := .cells #[.int .i64 t371, .int .i64 t372, .int .i64 t373] 27 (0, 0)) (by (with_reducible repeat (first | refine blk_drewN ?_ _ | refine blk_drew ?_ | refine blk_alloc ?_ _)); exact BK375.out) hb); have n2_ := Aside0.mk (blk_below (g := gb385) (o := .cells #[.int .i64 t382, .int .i64 t383, .int .i64 t384] 27 (0, 0)) (by (with_reducible repeat (first | refine blk_drewN ?_ _ | refine blk_drew ?_ | refine blk_alloc ?_ _)); exact BK385.out) hb); have n3_ := Aside0.mk (blk_below (g := gb395) (o := .cells #[.int .i64 t391, .int .i64 t392, .int .i64 t393] 27 (0, 0)) (by (with_reducible repeat (first | refine blk_drewN ?_ _ | refine blk_drew ?_ | refine blk_alloc ?_ _)); exact BK395.out) hb); have n4_ := Aside0.mk (blk_below (g := gb400) (o := .cells #[.int .i64 t396, .int .i64 t397, .int .i64 t398] 27 (0, 0)) (by (with_reducible repeat (first | refine blk_drewN ?_ _ | refine blk_drew ?_ | refine blk_alloc ?_ _)); exact BK400.out) hb); have n5_ := Aside0.mk (below_step (by repeat (first | (with_reducible first | exact HB.out | apply below_alloc | apply pw_below_drewN | apply below_drew1 | refine below_set ?_ GE370.out | refine below_set ?_ GE375.out | refine below_set ?_ GE385.out | refine below_set ?_ GE395.out | refine below_set ?_ GE400.out) | exact HB.out)) hb); have n6_ := Aside0.mk (hbox); have n7_ := Aside0.mk ((by rw [hg]; exact (below_size (by repeat (first | (with_reducible first | exact HB.out | apply below_alloc | apply pw_below_drewN | apply below_drew1 | refine below_set ?_ GE370.out | refine below_set ?_ GE375.out | refine below_set ?_ GE385.out | refine below_set ?_ GE395.out | refine below_set ?_ GE400.out) | exact HB.out))) : w.heap.size ≤ gb405)); have n8_ := Aside0.mk ((by rw [hg]; exact (below_size (by repeat (first | (with_reducible first | exact HB.out | apply below_alloc | apply pw_below_drewN | apply below_drew1 | refine below_set ?_ GE370.out | refine below_set ?_ GE375.out | refine below_set ?_ GE385.out | refine below_set ?_ GE395.out | refine below_set ?_ GE400.out) | exact HB.out))) : w.heap.size ≤ gb405)); have n9_ := Aside0.mk ((by rw [hg]; exact Nat.ne_of_lt (blk_lt (g := gb370) (o := .cells #[.int .i64 t366, .int .i64 t367, .int .i64 t368] 27 (0, 0)) (by (with_reducible repeat (first | refine blk_drewN ?_ _ | refine blk_drew ?_ | refine blk_alloc ?_ _)); exact BK370.out)) : gb370 ≠ gb405)); have n10_ := Aside0.mk ((by rw [hg]; exact Nat.ne_of_gt (blk_lt (g := gb370) (o := .cells #[.int .i64 t366, .int .i64 t367, .int .i64 t368] 27 (0, 0)) (by (with_reducible repeat (first | refine blk_drewN ?_ _ | refine blk_drew ?_ | refine blk_alloc ?_ _)); exact BK370.out)) : gb405 ≠ gb370)); have n11_ := Aside0.mk ((by rw [hg]; exact Nat.ne_of_lt (blk_lt (g := gb375) (o := .cells #[.int .i64 t371, .int .i64 t372, .int .i64 t373] 27 (0, 0)) (by (with_reducible repeat (first | refine blk_drewN ?_ _ | refine blk_drew ?_ | refine blk_alloc ?_ _)); exact BK375.out)) : gb375 ≠ gb405)); have n12_ := Aside0.mk ((by rw [hg]; exact Nat.ne_of_gt (blk_lt (g := gb375) (o := .cells #[.int .i64 t371, .int .i64 t372, .int .i64 t373] 27 (0, 0)) (by (with_reducible repeat (first | refine blk_drewN ?_ _ | refine blk_drew ?_ | refine blk_alloc ?_ _)); exact BK375.out)) : gb405 ≠ gb375)); have n13_ := Aside0.mk ((by rw [hg]; exact Nat.ne_of_lt (blk_lt (g := gb385) (o := .cells #[.int .i64 t382, .int .i64 t383, .int .i64 t384] 27 (0, 0)) (by (with_reducible repeat (first | refine blk_drewN ?_ _ | refine blk_drew ?_ | refine blk_alloc ?_ _)); exact BK385.out)) : gb385 ≠ gb405)); have n14_ := Aside0.mk ((by rw [hg]; exact Nat.ne_of_gt (blk_lt (g := gb385) (o := .cells #[.int .i64 t382, .int .i64 t383, .int .i64 t384] 27 (0, 0)) (by (with_reducible repeat (first | refine blk_drewN ?_ _ | refine blk_drew ?_ | refine blk_alloc ?_ _)); exact BK385.out)) : gb405 ≠ gb385)); have n15_ := Aside0.mk ((by rw [hg]; exact Nat.ne_of_lt (blk_lt (g := gb395) (o := .cells #[.int .i64 t391, .int .i64 t392, .int .i64 t393] 27 (0, 0)) (by (with_reducible repeat (first | refine blk_drewN ?_ _ | refine blk_drew ?_ | refine blk_alloc ?_ _)); exact BK395.out)) : gb395 ≠ gb405)); have n16_ := Aside0.mk ((by rw [hg]; exact Nat.ne_of_gt (blk_lt (g := gb395) (o := .cells #[.int .i64 t391, .int .i64 t392, .int .i64 t393] 27 (0, 0)) (by (with_reducible repeat (first | refine blk_drewN ?_ _ | refine blk_drew ?_ | refine blk_alloc ?_ _)); exact BK395.out)) : gb405 ≠ gb395)); have n17_ := Aside0.mk ((by rw [hg]; exact Nat.ne_of_lt (blk_lt (g := gb400) (o := .cells #[.int .i64 t396, .int .i64 t397, .int .i64 t398] 27 (0, 0)) (by (with_reducible repeat (first | refine blk_drewN ?_ _ | refine blk_drew ?_ | refine blk_alloc ?_ _)); exact BK400.out)) : gb400 ≠ gb405)); have n18_ := Aside0.mk ((by rw [hg]; exact Nat.ne_of_gt (blk_lt (g := gb400) (o := .cells #[.int .i64 t396, .int .i64 t397, .int .i64 t398] 27 (0, 0)) (by (with_reducible repeat (first | refine blk_drewN ?_ _ | refine blk_drew ?_ | refine blk_alloc ?_ _)); exact BK400.out)) : gb405 ≠ gb400)); clear BK370; clear BK375; clear BK385; clear BK395; clear BK400; clear HB; have BK370 := n0_; have BK375 := n1_; have BK385 := n2_; have BK395 := n3_; have BK400 := n4_; have HB := n5_; have BK405 := n6_; have GW405 := n7_; have GE405 := n8_; have NB370_405 := n9_; have NB405_370 := n10_; have NB375_405 := n11_; have NB405_375 := n12_; have NB385_405 := n13_; have NB405_385 := n14_; have NB395_405 := n15_; have NB405_395 := n16_; have NB400_405 := n17_; have NB405_400 := n18_; clear n0_ n1_ n2_ n3_ n4_ n5_ n6_ n7_ n8_ n9_ n10_ n11_ n12_ n13_ n14_ n15_ n16_ n17_ n18_; clear hb hbox hg; have hnb131 := NB405_370.out; have hnc131 := NB370_405.out; have hnb132 := NB405_375.out; have hnc132 := NB375_405.out; have hnb133 := NB405_385.out; have hnc133 := NB385_405.out; have hnb134 := NB405_395.out; have hnc134 := NB395_405.out; have hnb135 := NB405_400.out; have hnc135 := NB400_405.out; have hcz136_0 : w130.cell? ⟨gb405, 0, none⟩ = some (.int .i64 0) := (blk_cell BK405.out 0).trans rfl; have hcz136_1 : w130.cell? ⟨gb405, 1, none⟩ = some (.int .i64 0) := (blk_cell BK405.out 1).trans rfl; have hcz136_2 : w130.cell? ⟨gb405, 2, none⟩ = some (.int .i64 0) := (blk_cell BK405.out 2).trans rfl; have hfz136_0 := blk_frozen BK405.out 0; have hfz136_1 := blk_frozen BK405.out 1; have hfz136_2 := blk_frozen BK405.out 2; have hnb137 := NB385_370.out; have hnc137 := NB370_385.out; have hnb138 := NB385_375.out; have hnc138 := NB375_385.out; have hnb139 := NB385_395.out; have hnc139 := NB395_385.out; have hnb140 := NB385_400.out; have hnc140 := NB400_385.out; have hcz141_0 : w130.cell? ⟨gb385, 0, none⟩ = some (.int .i64 t382) := (blk_cell BK385.out 0).trans rfl; have hcz141_1 : w130.cell? ⟨gb385, 1, none⟩ = some (.int .i64 t383) := (blk_cell BK385.out 1).trans rfl; have hcz141_2 : w130.cell? ⟨gb385, 2, none⟩ = some (.int .i64 t384) := (blk_cell BK385.out 2).trans rfl; have hfz141_0 := blk_frozen BK385.out 0; have hfz141_1 := blk_frozen BK385.out 1; have hfz141_2 := blk_frozen BK385.out 2))
                  go_ret
                  exact ⟨by first | rfl | (simp [errW_none, errW_some] <;> rfl) | (simp [*, errW_none, errW_some] <;> rfl), by repeat (first | (with_reducible first | exact HB.out | apply below_alloc | apply pw_below_drewN | apply below_drew1 | refine below_set ?_ GE370.out | refine below_set ?_ GE375.out | refine below_set ?_ GE385.out | refine below_set ?_ GE395.out | refine below_set ?_ GE400.out | refine below_set ?_ GE405.out) | exact HB.out)⟩
                · rw [if_neg c128] at H
                  have c128b0 : (!(t401 == t382) || (!(t402 == t383) || (!(t403 == t384)))) = false := by simpa using c128
                  clear c128
                  have H' := Aside0.mk H
                  clear H
                  go_wp2_with (first | ((with_reducible refine gate_callee (f := 17) rfl ?_); refine goesL_ (some 141) rfl rfl Tryd.func17 (by kernel_rfl) rfl #[.string t386] rfl (by (try simp only [List.map_toArray, List.map_cons, List.map_nil]); first | done | rfl | (simp only [List.length_drop, List.length_take]; rfl)) ?_; (with_reducible refine (impl_ReadDate.calls kj15 t386 t401 t402 t403 t404 _ A126.out (tabAt_on hT (by repeat (first | (with_reducible first | exact HB.out | apply below_alloc | apply pw_below_drewN | apply below_drew1 | refine below_set ?_ (Aside0.out (by assumption))) | exact HB.out)))).mono ?_); rintro e w142 ⟨rfl, hb⟩; refine ⟨_, rfl, ?_⟩; have n0_ := Aside0.mk (blk_below (g := gb370) (o := .cells #[.int .i64 t366, .int .i64 t367, .int .i64 t368] 27 (0, 0)) (by (with_reducible repeat (first | refine blk_drewN ?_ _ | refine blk_drew ?_ | refine blk_alloc ?_ _)); exact BK370.out) hb); have n1_ := Aside0.mk (blk_below (g := gb375) (o := .cells #[.int .i64 t371, .int .i64 t372, .int .i64 t373] 27 (0, 0)) (by (with_reducible repeat (first | refine blk_drewN ?_ _ | refine blk_drew ?_ | refine blk_alloc ?_ _)); exact BK375.out) hb); have n2_ := Aside0.mk (blk_below (g := gb385) (o := .cells #[.int .i64 t382, .int .i64 t383, .int .i64 t384] 27 (0, 0)) (by (with_reducible repeat (first | refine blk_drewN ?_ _ | refine blk_drew ?_ | refine blk_alloc ?_ _)); exact BK385.out) hb); have n3_ := Aside0.mk (blk_below (g := gb395) (o := .cells #[.int .i64 t391, .int .i64 t392, .int .i64 t393] 27 (0, 0)) (by (with_reducible repeat (first | refine blk_drewN ?_ _ | refine blk_drew ?_ | refine blk_alloc ?_ _)); exact BK395.out) hb); have n4_ := Aside0.mk (blk_below (g := gb400) (o := .cells #[.int .i64 t396, .int .i64 t397, .int .i64 t398] 27 (0, 0)) (by (with_reducible repeat (first | refine blk_drewN ?_ _ | refine blk_drew ?_ | refine blk_alloc ?_ _)); exact BK400.out) hb); have n5_ := Aside0.mk (below_step (by repeat (first | (with_reducible first | exact HB.out | apply below_alloc | apply pw_below_drewN | apply below_drew1 | refine below_set ?_ GE370.out | refine below_set ?_ GE375.out | refine below_set ?_ GE385.out | refine below_set ?_ GE395.out | refine below_set ?_ GE400.out) | exact HB.out)) hb); clear BK370; clear BK375; clear BK385; clear BK395; clear BK400; clear HB; have BK370 := n0_; have BK375 := n1_; have BK385 := n2_; have BK395 := n3_; have BK400 := n4_; have HB := n5_; clear n0_ n1_ n2_ n3_ n4_ n5_; (try clear hb); (try clear hb2); (try clear hk); (try clear hi)) | ((with_reducible refine gate_dst (N := 27) rfl ?_); refine box_event ?hg (N := 27) ?hd (cs := #[.int .i64 0, .int .i64 0, .int .i64 0]) (t := 27) ?hr ?_; (case hd => rfl); (case hg => rfl); (case hr => first | (go_simp; done) | (go_simp; rfl)); intro gb405 hg w143 hbox hb; have n0_ := Aside0.mk (blk_below (g := gb370) (o := .cells #[.int .i64 t366, .int .i64 t367, .int .i64 t368] 27 (0, 0)) (by (with_reducible repeat (first | refine blk_drewN ?_ _ | refine blk_drew ?_ | refine blk_alloc ?_ _)); exact BK370.out) hb); have n1_ := Aside0.mk (blk_below (g := gb375) (o := .cells #[.int .i64 t371, .int .i64 t372, .int .i64 t373] 27 (0, 0)) (by (with_reducible repeat (first | refine blk_drewN ?_ _ | refine blk_drew ?_ | refine blk_alloc ?_ _)); exact BK375.out) hb); have n2_ := Aside0.mk (blk_below (g := gb385) (o := .cells #[.int .i64 t382, .int .i64 t383, .int .i64 t384] 27 (0, 0)) (by (with_reducible repeat (first | refine blk_drewN ?_ _ | refine blk_drew ?_ | refine blk_alloc ?_ _)); exact BK385.out) hb); have n3_ := Aside0.mk (blk_below (g := gb395) (o := .cells #[.int .i64 t391, .int .i64 t392, .int .i64 t393] 27 (0, 0)) (by (with_reducible repeat (first | refine blk_drewN ?_ _ | refine blk_drew ?_ | refine blk_alloc ?_ _)); exact BK395.out) hb); have n4_ := Aside0.mk (blk_below (g := gb400) (o := .cells #[.int .i64 t396, .int .i64 t397, .int .i64 t398] 27 (0, 0)) (by (with_reducible repeat (first | refine blk_drewN ?_ _ | refine blk_drew ?_ | refine blk_alloc ?_ _)); exact BK400.out) hb); have n5_ := Aside0.mk (below_step (by repeat (first | (with_reducible first | exact HB.out | apply below_alloc | apply pw_below_drewN | apply below_drew1 | refine below_set ?_ GE370.out | refine below_set ?_ GE375.out | refine below_set ?_ GE385.out | refine below_set ?_ GE395.out | refine below_set ?_ GE400.out) | exact HB.out)) hb); have n6_ := Aside0.mk (hbox); have n7_ := Aside0.mk ((by rw [hg]; exact (below_size (by repeat (first | (with_reducible first | exact HB.out | apply below_alloc | apply pw_below_drewN | apply below_drew1 | refine below_set ?_ GE370.out | refine below_set ?_ GE375.out | refine below_set ?_ GE385.out | refine below_set ?_ GE395.out | refine below_set ?_ GE400.out) | exact HB.out))) : w.heap.size ≤ gb405)); have n8_ := Aside0.mk ((by rw [hg]; exact (below_size (by repeat (first | (with_reducible first | exact HB.out | apply below_alloc | apply pw_below_drewN | apply below_drew1 | refine below_set ?_ GE370.out | refine below_set ?_ GE375.out | refine below_set ?_ GE385.out | refine below_set ?_ GE395.out | refine below_set ?_ GE400.out) | exact HB.out))) : w.heap.size ≤ gb405)); have n9_ := Aside0.mk ((by rw [hg]; exact Nat.ne_of_lt (blk_lt (g := gb370) (o := .cells #[.int .i64 t366, .int .i64 t367, .int .i64 t368] 27 (0, 0)) (by (with_reducible repeat (first | refine blk_drewN ?_ _ | refine blk_drew ?_ | refine blk_alloc ?_ _)); exact BK370.out)) : gb370 ≠ gb405)); have n10_ := Aside0.mk ((by rw [hg]; exact Nat.ne_of_gt (blk_lt (g := gb370) (o := .cells #[.int .i64 t366, .int .i64 t367, .int .i64 t368] 27 (0, 0)) (by (with_reducible repeat (first | refine blk_drewN ?_ _ | refine blk_drew ?_ | refine blk_alloc ?_ _)); exact BK370.out)) : gb405 ≠ gb370)); have n11_ := Aside0.mk ((by rw [hg]; exact Nat.ne_of_lt (blk_lt (g := gb375) (o := .cells #[.int .i64 t371, .int .i64 t372, .int .i64 t373] 27 (0, 0)) (by (with_reducible repeat (first | refine blk_drewN ?_ _ | refine blk_drew ?_ | refine blk_alloc ?_ _)); exact BK375.out)) : gb375 ≠ gb405)); have n12_ := Aside0.mk ((by rw [hg]; exact Nat.ne_of_gt (blk_lt (g := gb375) (o := .cells #[.int .i64 t371, .int .i64 t372, .int .i64 t373] 27 (0, 0)) (by (with_reducible repeat (first | refine blk_drewN ?_ _ | refine blk_drew ?_ | refine blk_alloc ?_ _)); exact BK375.out)) : gb405 ≠ gb375)); have n13_ := Aside0.mk ((by rw [hg]; exact Nat.ne_of_lt (blk_lt (g := gb385) (o := .cells #[.int .i64 t382, .int .i64 t383, .int .i64 t384] 27 (0, 0)) (by (with_reducible repeat (first | refine blk_drewN ?_ _ | refine blk_drew ?_ | refine blk_alloc ?_ _)); exact BK385.out)) : gb385 ≠ gb405)); have n14_ := Aside0.mk ((by rw [hg]; exact Nat.ne_of_gt (blk_lt (g := gb385) (o := .cells #[.int .i64 t382, .int .i64 t383, .int .i64 t384] 27 (0, 0)) (by (with_reducible repeat (first | refine blk_drewN ?_ _ | refine blk_drew ?_ | refine blk_alloc ?_ _)); exact BK385.out)) : gb405 ≠ gb385)); have n15_ := Aside0.mk ((by rw [hg]; exact Nat.ne_of_lt (blk_lt (g := gb395) (o := .cells #[.int .i64 t391, .int .i64 t392, .int .i64 t393] 27 (0, 0)) (by (with_reducible repeat (first | refine blk_drewN ?_ _ | refine blk_drew ?_ | refine blk_alloc ?_ _)); exact BK395.out)) : gb395 ≠ gb405)); have n16_ := Aside0.mk ((by rw [hg]; exact Nat.ne_of_gt (blk_lt (g := gb395) (o := .cells #[.int .i64 t391, .int .i64 t392, .int .i64 t393] 27 (0, 0)) (by (with_reducible repeat (first | refine blk_drewN ?_ _ | refine blk_drew ?_ | refine blk_alloc ?_ _)); exact BK395.out)) : gb405 ≠ gb395)); have n17_ := Aside0.mk ((by rw [hg]; exact Nat.ne_of_lt (blk_lt (g := gb400) (o := .cells #[.int .i64 t396, .int .i64 t397, .int .i64 t398] 27 (0, 0)) (by (with_reducible repeat (first | refine blk_drewN ?_ _ | refine blk_drew ?_ | refine blk_alloc ?_ _)); exact BK400.out)) : gb400 ≠ gb405)); have n18_ := Aside0.mk ((by rw [hg]; exact Nat.ne_of_gt (blk_lt (g := gb400) (o := .cells #[.int .i64 t396, .int .i64 t397, .int .i64 t398] 27 (0, 0)) (by (with_reducible repeat (first | refine blk_drewN ?_ _ | refine blk_drew ?_ | refine blk_alloc ?_ _)); exact BK400.out)) : gb405 ≠ gb400)); clear BK370; clear BK375; clear BK385; clear BK395; clear BK400; clear HB; have BK370 := n0_; have BK375 := n1_; have BK385 := n2_; have BK395 := n3_; have BK400 := n4_; have HB := n5_; have BK405 := n6_; have GW405 := n7_; have GE405 := n8_; have NB370_405 := n9_; have NB405_370 := n10_; have NB375_405 := n11_; have NB405_375 := n12_; have NB385_405 := n13_; have NB405_385 := n14_; have NB395_405 := n15_; have NB405_395 := n16_; have NB400_405 := n17_; have NB405_400 := n18_; clear n0_ n1_ n2_ n3_ n4_ n5_ n6_ n7_ n8_ n9_ n10_ n11_ n12_ n13_ n14_ n15_ n16_ n17_ n18_; clear hb hbox hg; have hnb144 := NB405_370.out; have hnc144 := NB370_405.out; have hnb145 := NB405_375.out; have hnc145 := NB375_405.out; have hnb146 := NB405_385.out; have hnc146 := NB385_405.out; have hnb147 := NB405_395.out; have hnc147 := NB395_405.out; have hnb148 := NB405_400.out; have hnc148 := NB400_405.out; have hcz149_0 : w143.cell? ⟨gb405, 0, none⟩ = some (.int .i64 0) := (blk_cell BK405.out 0).trans rfl; have hcz149_1 : w143.cell? ⟨gb405, 1, none⟩ = some (.int .i64 0) := (blk_cell BK405.out 1).trans rfl; have hcz149_2 : w143.cell? ⟨gb405, 2, none⟩ = some (.int .i64 0) := (blk_cell BK405.out 2).trans rfl; have hfz149_0 := blk_frozen BK405.out 0; have hfz149_1 := blk_frozen BK405.out 1; have hfz149_2 := blk_frozen BK405.out 2; have hnb150 := NB385_370.out; have hnc150 := NB370_385.out; have hnb151 := NB385_375.out; have hnc151 := NB375_385.out; have hnb152 := NB385_395.out; have hnc152 := NB395_385.out; have hnb153 := NB385_400.out; have hnc153 := NB400_385.out; have hcz154_0 : w143.cell? ⟨gb385, 0, none⟩ = some (.int .i64 t382) := (blk_cell BK385.out 0).trans rfl; have hcz154_1 : w143.cell? ⟨gb385, 1, none⟩ = some (.int .i64 t383) := (blk_cell BK385.out 1).trans rfl; have hcz154_2 : w143.cell? ⟨gb385, 2, none⟩ = some (.int .i64 t384) := (blk_cell BK385.out 2).trans rfl; have hfz154_0 := blk_frozen BK385.out 0; have hfz154_1 := blk_frozen BK385.out 1; have hfz154_2 := blk_frozen BK385.out 2))
                  go_meet
                  case rel => exact ⟨_, H', ⟨by have := HJ15.out; first | omega | exact Nat.le_refl _⟩, ⟨by (with_reducible repeat (first | refine blk_drewN ?_ _ | refine blk_drew ?_ | refine blk_alloc ?_ _)); refine blk_far ?_ NB370_405.out _; (with_reducible repeat (first | refine blk_drewN ?_ _ | refine blk_drew ?_ | refine blk_alloc ?_ _)); refine blk_far ?_ NB370_405.out _; (with_reducible repeat (first | refine blk_drewN ?_ _ | refine blk_drew ?_ | refine blk_alloc ?_ _)); refine blk_far ?_ NB370_405.out _; (with_reducible repeat (first | refine blk_drewN ?_ _ | refine blk_drew ?_ | refine blk_alloc ?_ _)); exact BK370.out⟩, ⟨by (with_reducible repeat (first | refine blk_drewN ?_ _ | refine blk_drew ?_ | refine blk_alloc ?_ _)); refine blk_far ?_ NB375_405.out _; (with_reducible repeat (first | refine blk_drewN ?_ _ | refine blk_drew ?_ | refine blk_alloc ?_ _)); refine blk_far ?_ NB375_405.out _; (with_reducible repeat (first | refine blk_drewN ?_ _ | refine blk_drew ?_ | refine blk_alloc ?_ _)); refine blk_far ?_ NB375_405.out _; (with_reducible repeat (first | refine blk_drewN ?_ _ | refine blk_drew ?_ | refine blk_alloc ?_ _)); exact BK375.out⟩, ⟨by (with_reducible repeat (first | refine blk_drewN ?_ _ | refine blk_drew ?_ | refine blk_alloc ?_ _)); refine blk_far ?_ NB385_405.out _; (with_reducible repeat (first | refine blk_drewN ?_ _ | refine blk_drew ?_ | refine blk_alloc ?_ _)); refine blk_far ?_ NB385_405.out _; (with_reducible repeat (first | refine blk_drewN ?_ _ | refine blk_drew ?_ | refine blk_alloc ?_ _)); refine blk_far ?_ NB385_405.out _; (with_reducible repeat (first | refine blk_drewN ?_ _ | refine blk_drew ?_ | refine blk_alloc ?_ _)); exact BK385.out⟩, ⟨by (with_reducible repeat (first | refine blk_drewN ?_ _ | refine blk_drew ?_ | refine blk_alloc ?_ _)); refine blk_far ?_ NB395_405.out _; (with_reducible repeat (first | refine blk_drewN ?_ _ | refine blk_drew ?_ | refine blk_alloc ?_ _)); refine blk_far ?_ NB395_405.out _; (with_reducible repeat (first | refine blk_drewN ?_ _ | refine blk_drew ?_ | refine blk_alloc ?_ _)); refine blk_far ?_ NB395_405.out _; (with_reducible repeat (first | refine blk_drewN ?_ _ | refine blk_drew ?_ | refine blk_alloc ?_ _)); exact BK395.out⟩, ⟨by (with_reducible repeat (first | refine blk_drewN ?_ _ | refine blk_drew ?_ | refine blk_alloc ?_ _)); refine blk_far ?_ NB400_405.out _; (with_reducible repeat (first | refine blk_drewN ?_ _ | refine blk_drew ?_ | refine blk_alloc ?_ _)); refine blk_far ?_ NB400_405.out _; (with_reducible repeat (first | refine blk_drewN ?_ _ | refine blk_drew ?_ | refine blk_alloc ?_ _)); refine blk_far ?_ NB400_405.out _; (with_reducible repeat (first | refine blk_drewN ?_ _ | refine blk_drew ?_ | refine blk_alloc ?_ _)); exact BK400.out⟩, ⟨by repeat (first | (with_reducible first | exact HB.out | apply below_alloc | apply pw_below_drewN | apply below_drew1 | refine below_set ?_ GE370.out | refine below_set ?_ GE375.out | refine below_set ?_ GE385.out | refine below_set ?_ GE395.out | refine below_set ?_ GE400.out | refine below_set ?_ GE405.out) | exact HB.out)⟩⟩
              · rw [if_neg c127] at H
                have c127b0 : (t404 == 0) = false := beq_eq_false_iff_ne.mpr c127
                have c127b1 : (t404 != 0) = true := bne_iff_ne.mpr c127
                obtain rfl := Option.some.inj H
                go_wp2_with (first | ((with_reducible refine gate_callee (f := 17) rfl ?_); refine goesL_ (some 141) rfl rfl Tryd.func17 (by kernel_rfl) rfl #[.string t386] rfl (by (try simp only [List.map_toArray, List.map_cons, List.map_nil]); first | done | rfl | (simp only [List.length_drop, List.length_take]; rfl)) ?_; (with_reducible refine (impl_ReadDate.calls kj15 t386 t401 t402 t403 t404 _ A126.out (tabAt_on hT (by repeat (first | (with_reducible first | exact HB.out | apply below_alloc | apply pw_below_drewN | apply below_drew1 | refine below_set ?_ (Aside0.out (by assumption))) | exact HB.out)))).mono ?_); rintro e w155 ⟨rfl, hb⟩; refine ⟨_, rfl, ?_⟩; have n0_ := Aside0.mk (blk_below (g := gb370) (o := .cells #[.int .i64 t366, .int .i64 t367, .int .i64 t368] 27 (0, 0)) (by (with_reducible repeat (first | refine blk_drewN ?_ _ | refine blk_drew ?_ | refine blk_alloc ?_ _)); exact BK370.out) hb); have n1_ := Aside0.mk (blk_below (g := gb375) (o := .cells #[.int .i64 t371, .int .i64 t372, .int .i64 t373] 27 (0, 0)) (by (with_reducible repeat (first | refine blk_drewN ?_ _ | refine blk_drew ?_ | refine blk_alloc ?_ _)); exact BK375.out) hb); have n2_ := Aside0.mk (blk_below (g := gb385) (o := .cells #[.int .i64 t382, .int .i64 t383, .int .i64 t384] 27 (0, 0)) (by (with_reducible repeat (first | refine blk_drewN ?_ _ | refine blk_drew ?_ | refine blk_alloc ?_ _)); exact BK385.out) hb); have n3_ := Aside0.mk (blk_below (g := gb395) (o := .cells #[.int .i64 t391, .int .i64 t392, .int .i64 t393] 27 (0, 0)) (by (with_reducible repeat (first | refine blk_drewN ?_ _ | refine blk_drew ?_ | refine blk_alloc ?_ _)); exact BK395.out) hb); have n4_ := Aside0.mk (blk_below (g := gb400) (o := .cells #[.int .i64 t396, .int .i64 t397, .int .i64 t398] 27 (0, 0)) (by (with_reducible repeat (first | refine blk_drewN ?_ _ | refine blk_drew ?_ | refine blk_alloc ?_ _)); exact BK400.out) hb); have n5_ := Aside0.mk (below_step (by repeat (first | (with_reducible first | exact HB.out | apply below_alloc | apply pw_below_drewN | apply below_drew1 | refine below_set ?_ GE370.out | refine below_set ?_ GE375.out | refine below_set ?_ GE385.out | refine below_set ?_ GE395.out | refine below_set ?_ GE400.out) | exact HB.out)) hb); clear BK370; clear BK375; clear BK385; clear BK395; clear BK400; clear HB; have BK370 := n0_; have BK375 := n1_; have BK385 := n2_; have BK395 := n3_; have BK400 := n4_; have HB := n5_; clear n0_ n1_ n2_ n3_ n4_ n5_; (try clear hb); (try clear hb2); (try clear hk); (try clear hi)) | ((with_reducible refine gate_dst (N := 27) rfl ?_); refine box_event ?hg (N := 27) ?hd (cs := #[.int .i64 0, .int .i64 0, .int .i64 0]) (t := 27) ?hr ?_; (case hd => rfl); (case hg => rfl); (case hr => first | (go_simp; done) | (go_simp; rfl)); intro gb405 hg w156 hbox hb; have n0_ := Aside0.mk (blk_below (g := gb370) (o := .cells #[.int .i64 t366, .int .i64 t367, .int .i64 t368] 27 (0, 0)) (by (with_reducible repeat (first | refine blk_drewN ?_ _ | refine blk_drew ?_ | refine blk_alloc ?_ _)); exact BK370.out) hb); have n1_ := Aside0.mk (blk_below (g := gb375) (o := .cells #[.int .i64 t371, .int .i64 t372, .int .i64 t373] 27 (0, 0)) (by (with_reducible repeat (first | refine blk_drewN ?_ _ | refine blk_drew ?_ | refine blk_alloc ?_ _)); exact BK375.out) hb); have n2_ := Aside0.mk (blk_below (g := gb385) (o := .cells #[.int .i64 t382, .int .i64 t383, .int .i64 t384] 27 (0, 0)) (by (with_reducible repeat (first | refine blk_drewN ?_ _ | refine blk_drew ?_ | refine blk_alloc ?_ _)); exact BK385.out) hb); have n3_ := Aside0.mk (blk_below (g := gb395) (o := .cells #[.int .i64 t391, .int .i64 t392, .int .i64 t393] 27 (0, 0)) (by (with_reducible repeat (first | refine blk_drewN ?_ _ | refine blk_drew ?_ | refine blk_alloc ?_ _)); exact BK395.out) hb); have n4_ := Aside0.mk (blk_below (g := gb400) (o := .cells #[.int .i64 t396, .int .i64 t397, .int .i64 t398] 27 (0, 0)) (by (with_reducible repeat (first | refine blk_drewN ?_ _ | refine blk_drew ?_ | refine blk_alloc ?_ _)); exact BK400.out) hb); have n5_ := Aside0.mk (below_step (by repeat (first | (with_reducible first | exact HB.out | apply below_alloc | apply pw_below_drewN | apply below_drew1 | refine below_set ?_ GE370.out | refine below_set ?_ GE375.out | refine below_set ?_ GE385.out | refine below_set ?_ GE395.out | refine below_set ?_ GE400.out) | exact HB.out)) hb); have n6_ := Aside0.mk (hbox); have n7_ := Aside0.mk ((by rw [hg]; exact (below_size (by repeat (first | (with_reducible first | exact HB.out | apply below_alloc | apply pw_below_drewN | apply below_drew1 | refine below_set ?_ GE370.out | refine below_set ?_ GE375.out | refine below_set ?_ GE385.out | refine below_set ?_ GE395.out | refine below_set ?_ GE400.out) | exact HB.out))) : w.heap.size ≤ gb405)); have n8_ := Aside0.mk ((by rw [hg]; exact (below_size (by repeat (first | (with_reducible first | exact HB.out | apply below_alloc | apply pw_below_drewN | apply below_drew1 | refine below_set ?_ GE370.out | refine below_set ?_ GE375.out | refine below_set ?_ GE385.out | refine below_set ?_ GE395.out | refine below_set ?_ GE400.out) | exact HB.out))) : w.heap.size ≤ gb405)); have n9_ := Aside0.mk ((by rw [hg]; exact Nat.ne_of_lt (blk_lt (g := gb370) (o := .cells #[.int .i64 t366, .int .i64 t367, .int .i64 t368] 27 (0, 0)) (by (with_reducible repeat (first | refine blk_drewN ?_ _ | refine blk_drew ?_ | refine blk_alloc ?_ _)); exact BK370.out)) : gb370 ≠ gb405)); have n10_ := Aside0.mk ((by rw [hg]; exact Nat.ne_of_gt (blk_lt (g := gb370) (o := .cells #[.int .i64 t366, .int .i64 t367, .int .i64 t368] 27 (0, 0)) (by (with_reducible repeat (first | refine blk_drewN ?_ _ | refine blk_drew ?_ | refine blk_alloc ?_ _)); exact BK370.out)) : gb405 ≠ gb370)); have n11_ := Aside0.mk ((by rw [hg]; exact Nat.ne_of_lt (blk_lt (g := gb375) (o := .cells #[.int .i64 t371, .int .i64 t372, .int .i64 t373] 27 (0, 0)) (by (with_reducible repeat (first | refine blk_drewN ?_ _ | refine blk_drew ?_ | refine blk_alloc ?_ _)); exact BK375.out)) : gb375 ≠ gb405)); have n12_ := Aside0.mk ((by rw [hg]; exact Nat.ne_of_gt (blk_lt (g := gb375) (o := .cells #[.int .i64 t371, .int .i64 t372, .int .i64 t373] 27 (0, 0)) (by (with_reducible repeat (first | refine blk_drewN ?_ _ | refine blk_drew ?_ | refine blk_alloc ?_ _)); exact BK375.out)) : gb405 ≠ gb375)); have n13_ := Aside0.mk ((by rw [hg]; exact Nat.ne_of_lt (blk_lt (g := gb385) (o := .cells #[.int .i64 t382, .int .i64 t383, .int .i64 t384] 27 (0, 0)) (by (with_reducible repeat (first | refine blk_drewN ?_ _ | refine blk_drew ?_ | refine blk_alloc ?_ _)); exact BK385.out)) : gb385 ≠ gb405)); have n14_ := Aside0.mk ((by rw [hg]; exact Nat.ne_of_gt (blk_lt (g := gb385) (o := .cells #[.int .i64 t382, .int .i64 t383, .int .i64 t384] 27 (0, 0)) (by (with_reducible repeat (first | refine blk_drewN ?_ _ | refine blk_drew ?_ | refine blk_alloc ?_ _)); exact BK385.out)) : gb405 ≠ gb385)); have n15_ := Aside0.mk ((by rw [hg]; exact Nat.ne_of_lt (blk_lt (g := gb395) (o := .cells #[.int .i64 t391, .int .i64 t392, .int .i64 t393] 27 (0, 0)) (by (with_reducible repeat (first | refine blk_drewN ?_ _ | refine blk_drew ?_ | refine blk_alloc ?_ _)); exact BK395.out)) : gb395 ≠ gb405)); have n16_ := Aside0.mk ((by rw [hg]; exact Nat.ne_of_gt (blk_lt (g := gb395) (o := .cells #[.int .i64 t391, .int .i64 t392, .int .i64 t393] 27 (0, 0)) (by (with_reducible repeat (first | refine blk_drewN ?_ _ | refine blk_drew ?_ | refine blk_alloc ?_ _)); exact BK395.out)) : gb405 ≠ gb395)); have n17_ := Aside0.mk ((by rw [hg]; exact Nat.ne_of_lt (blk_lt (g := gb400) (o := .cells #[.int .i64 t396, .int .i64 t397, .int .i64 t398] 27 (0, 0)) (by (with_reducible repeat (first | refine blk_drewN ?_ _ | refine blk_drew ?_ | refine blk_alloc ?_ _)); exact BK400.out)) : gb400 ≠ gb405)); have n18_ := Aside0.mk ((by rw [hg]; exact Nat.ne_of_gt (blk_lt (g := gb400) (o := .cells #[.int .i64 t396, .int .i64 t397, .int .i64 t398] 27 (0, 0)) (by (with_reducible repeat (first | refine blk_drewN ?_ _ | refine blk_drew ?_ | refine blk_alloc ?_ _)); exact BK400.out)) : gb405 ≠ gb400)); clear BK370; clear BK375; clear BK385; clear BK395; clear BK400; clear HB; have BK370 := n0_; have BK375 := n1_; have BK385 := n2_; have BK395 := n3_; have BK400 := n4_; have HB := n5_; have BK405 := n6_; have GW405 := n7_; have GE405 := n8_; have NB370_405 := n9_; have NB405_370 := n10_; have NB375_405 := n11_; have NB405_375 := n12_; have NB385_405 := n13_; have NB405_385 := n14_; have NB395_405 := n15_; have NB405_395 := n16_; have NB400_405 := n17_; have NB405_400 := n18_; clear n0_ n1_ n2_ n3_ n4_ n5_ n6_ n7_ n8_ n9_ n10_ n11_ n12_ n13_ n14_ n15_ n16_ n17_ n18_; clear hb hbox hg; have hnb157 := NB405_370.out; have hnc157 := NB370_405.out; have hnb158 := NB405_375.out; have hnc158 := NB375_405.out; have hnb159 := NB405_385.out; have hnc159 := NB385_405.out; have hnb160 := NB405_395.out; have hnc160 := NB395_405.out; have hnb161 := NB405_400.out; have hnc161 := NB400_405.out; have hcz162_0 : w156.cell? ⟨gb405, 0, none⟩ = some (.int .i64 0) := (blk_cell BK405.out 0).trans rfl; have hcz162_1 : w156.cell? ⟨gb405, 1, none⟩ = some (.int .i64 0) := (blk_cell BK405.out 1).trans rfl; have hcz162_2 : w156.cell? ⟨gb405, 2, none⟩ = some (.int .i64 0) := (blk_cell BK405.out 2).trans rfl; have hfz162_0 := blk_frozen BK405.out 0; have hfz162_1 := blk_frozen BK405.out 1; have hfz162_2 := blk_frozen BK405.out 2))
                go_ret
                exact ⟨by first | rfl | (simp [errW_none, errW_some] <;> rfl) | (simp [*, errW_none, errW_some] <;> rfl), by repeat (first | (with_reducible first | exact HB.out | apply below_alloc | apply pw_below_drewN | apply below_drew1 | refine below_set ?_ GE370.out | refine below_set ?_ GE375.out | refine below_set ?_ GE385.out | refine below_set ?_ GE395.out | refine below_set ?_ GE400.out | refine below_set ?_ GE405.out) | exact HB.out)⟩
            · rw [if_neg c125] at H
              have c125b0 : (t387 == 0) = false := beq_eq_false_iff_ne.mpr c125
              have c125b1 : (t387 != 0) = true := bne_iff_ne.mpr c125
              (first | rw [c125b0] | (simp only [i64_w, i32_w]; rw [c125b0]) | skip)
              have H' := Aside0.mk H
              clear H
              go_wp2
              go_meet
              case rel => exact ⟨_, H', ⟨by have := HJ15.out; first | omega | exact Nat.le_refl _⟩, ⟨by (with_reducible repeat (first | refine blk_drewN ?_ _ | refine blk_drew ?_ | refine blk_alloc ?_ _)); exact BK370.out⟩, ⟨by (with_reducible repeat (first | refine blk_drewN ?_ _ | refine blk_drew ?_ | refine blk_alloc ?_ _)); exact BK375.out⟩, ⟨by (with_reducible repeat (first | refine blk_drewN ?_ _ | refine blk_drew ?_ | refine blk_alloc ?_ _)); exact BK385.out⟩, ⟨by (with_reducible repeat (first | refine blk_drewN ?_ _ | refine blk_drew ?_ | refine blk_alloc ?_ _)); exact BK395.out⟩, ⟨by (with_reducible repeat (first | refine blk_drewN ?_ _ | refine blk_drew ?_ | refine blk_alloc ?_ _)); exact BK400.out⟩, ⟨by repeat (first | (with_reducible first | exact HB.out | apply below_alloc | apply pw_below_drewN | apply below_drew1 | refine below_set ?_ GE370.out | refine below_set ?_ GE375.out | refine below_set ?_ GE385.out | refine below_set ?_ GE395.out | refine below_set ?_ GE400.out) | exact HB.out)⟩⟩
          case rest =>
            clear HC124
            try clear c1
            try clear c2
            try clear p2
            try clear c3
            try clear c4
            try clear c5
            try clear c6
            try clear c7
            try clear c8
            try clear c9
            try clear c10
            try clear c11
            try clear c12
            try clear c13
            try clear c14
            try clear c15
            try clear c16
            try clear c17
            try clear c18
            try clear c23
            try clear c28
            try clear c29
            try clear c37
            try clear c38
            try clear c39
            try clear c43
            try clear c44
            try clear c45
            try clear c46
            try clear c48
            try clear c48b0
            try clear c48b1
            try clear c49
            try clear c49b0
            try clear c50
            try clear c51
            try clear c52
            try clear c53
            try clear c55
            try clear c56
            try clear c57
            try clear c59
            try clear c59b0
            try clear c59b1
            try clear c60
            try clear c60b0
            try clear c60b1
            try clear c61
            try clear c61b0
            try clear c61b1
            try clear c62
            try clear c62b0
            try clear c62b1
            try clear c63
            try clear c63b0
            try clear c63b1
            try clear c64
            try clear c65
            try clear c66
            try clear c67
            try clear c69
            try clear c70
            try clear c71
            try clear c73
            try clear c74
            try clear c76
            try clear c78
            try clear c79
            try clear c80
            try clear c81
            try clear c83
            try clear c84
            try clear c85
            try clear c87
            try clear c88
            try clear c89
            try clear c90
            try clear c92
            try clear c93
            try clear c94
            try clear c96
            try clear c97
            try clear c98
            try clear c99
            try clear c101
            try clear c102
            try clear c103
            try clear c105
            try clear c106
            try clear c107
            try clear c108
            try clear c110
            try clear c111
            try clear c112
            try clear c114
            try clear c115
            try clear c116
            try clear c117
            try clear c119
            try clear c120
            try clear c121
            try clear c123
            try clear c125
            try clear c125b0
            try clear c125b1
            try clear c127
            try clear c127b0
            try clear c127b1
            try clear c128
            try clear c128b0
            try clear c131
            try clear c132
            try clear c133
            try clear c134
            try clear c135
            try clear c137
            try clear c138
            try clear c139
            try clear c140
            try clear c144
            try clear c145
            try clear c146
            try clear c147
            try clear c148
            try clear c150
            try clear c151
            try clear c152
            try clear c153
            try clear c157
            try clear c158
            try clear c159
            try clear c160
            try clear c161
            try clear hcz100_0
            try clear hcz100_1
            try clear hcz100_2
            try clear hcz104_0
            try clear hcz104_1
            try clear hcz104_2
            try clear hcz109_0
            try clear hcz109_1
            try clear hcz109_2
            try clear hcz113_0
            try clear hcz113_1
            try clear hcz113_2
            try clear hcz118_0
            try clear hcz118_1
            try clear hcz118_2
            try clear hcz122_0
            try clear hcz122_1
            try clear hcz122_2
            try clear hcz136_0
            try clear hcz136_1
            try clear hcz136_2
            try clear hcz141_0
            try clear hcz141_1
            try clear hcz141_2
            try clear hcz149_0
            try clear hcz149_1
            try clear hcz149_2
            try clear hcz154_0
            try clear hcz154_1
            try clear hcz154_2
            try clear hcz162_0
            try clear hcz162_1
            try clear hcz162_2
            try clear hcz20_0
            try clear hcz20_1
            try clear hcz20_2
            try clear hcz24_0
            try clear hcz24_1
            try clear hcz24_2
            try clear hcz30_0
            try clear hcz30_1
            try clear hcz30_2
            try clear hcz32_0
            try clear hcz32_1
            try clear hcz32_2
            try clear hcz40_0
            try clear hcz40_1
            try clear hcz40_2
            try clear hcz47_0
            try clear hcz47_1
            try clear hcz47_2
            try clear hcz54_0
            try clear hcz54_1
            try clear hcz54_2
            try clear hcz58_0
            try clear hcz58_1
            try clear hcz58_2
            try clear hcz68_0
            try clear hcz68_1
            try clear hcz68_2
            try clear hcz72_0
            try clear hcz72_1
            try clear hcz72_2
            try clear hcz75_0
            try clear hcz75_1
            try clear hcz75_2
            try clear hcz77_0
            try clear hcz77_1
            try clear hcz77_2
            try clear hcz82_0
            try clear hcz82_1
            try clear hcz82_2
            try clear hcz86_0
            try clear hcz86_1
            try clear hcz86_2
            try clear hcz91_0
            try clear hcz91_1
            try clear hcz91_2
            try clear hcz95_0
            try clear hcz95_1
            try clear hcz95_2
            try clear hfz100_0
            try clear hfz100_1
            try clear hfz100_2
            try clear hfz104_0
            try clear hfz104_1
            try clear hfz104_2
            try clear hfz109_0
            try clear hfz109_1
            try clear hfz109_2
            try clear hfz113_0
            try clear hfz113_1
            try clear hfz113_2
            try clear hfz118_0
            try clear hfz118_1
            try clear hfz118_2
            try clear hfz122_0
            try clear hfz122_1
            try clear hfz122_2
            try clear hfz136_0
            try clear hfz136_1
            try clear hfz136_2
            try clear hfz141_0
            try clear hfz141_1
            try clear hfz141_2
            try clear hfz149_0
            try clear hfz149_1
            try clear hfz149_2
            try clear hfz154_0
            try clear hfz154_1
            try clear hfz154_2
            try clear hfz162_0
            try clear hfz162_1
            try clear hfz162_2
            try clear hfz20_0
            try clear hfz20_1
            try clear hfz20_2
            try clear hfz24_0
            try clear hfz24_1
            try clear hfz24_2
            try clear hfz30_0
            try clear hfz30_1
            try clear hfz30_2
            try clear hfz32_0
            try clear hfz32_1
            try clear hfz32_2
            try clear hfz40_0
            try clear hfz40_1
            try clear hfz40_2
            try clear hfz47_0
            try clear hfz47_1
            try clear hfz47_2
            try clear hfz54_0
            try clear hfz54_1
            try clear hfz54_2
            try clear hfz58_0
            try clear hfz58_1
            try clear hfz58_2
            try clear hfz68_0
            try clear hfz68_1
            try clear hfz68_2
            try clear hfz72_0
            try clear hfz72_1
            try clear hfz72_2
            try clear hfz75_0
            try clear hfz75_1
            try clear hfz75_2
            try clear hfz77_0
            try clear hfz77_1
            try clear hfz77_2
            try clear hfz82_0
            try clear hfz82_1
            try clear hfz82_2
            try clear hfz86_0
            try clear hfz86_1
            try clear hfz86_2
            try clear hfz91_0
            try clear hfz91_1
            try clear hfz91_2
            try clear hfz95_0
            try clear hfz95_1
            try clear hfz95_2
            try clear p2
            obtain ⟨kq, HA, HJ123, BK370, BK375, BK385, BK395, BK400, HB⟩ := hcut
            cases kq with
            | zero => exact absurd HA.out (by simp [laws_FnMonths.j1])
            | succ kj123 =>
              have H := HA.out
              clear HA
              simp only [laws_FnMonths.j1] at H
              by_cases c163 : t369 = 0
              · rw [if_pos c163] at H
                have c163b0 : (t369 == 0) = true := beq_iff_eq.mpr c163
                have c163b1 : (t369 != 0) = false := bne_eq_false_iff_eq.mpr c163
                clear c163
                replace H := Option.bind_eq_some_iff.mp H
                obtain ⟨⟨t406, t407⟩, A1640, H⟩ := H
                replace H : ((impl_DaysInMonth.f kj123 t362 t363).bind fun bt408 => (if t407 = 0 then (if t406 = t364 then (if bt408.2 = 0 then (if t365 = 0 then (if t368 > (wrap64 (bt408.1 - 7)) then (some true) else (if t365 > 0 then (some ((wrap64 (Int.tdiv (wrap64 (t368 - 1)) 7)) == (wrap64 (t365 - 1)))) else (some false))) else (if t365 > 0 then (some ((wrap64 (Int.tdiv (wrap64 (t368 - 1)) 7)) == (wrap64 (t365 - 1)))) else (some false))) else (some false)) else (some false)) else (some false))) = some r := H
                have A164 := Aside0.mk A1640
                clear A1640
                replace H := Option.bind_eq_some_iff.mp H
                obtain ⟨⟨t408, t409⟩, A1650, H⟩ := H
                replace H : (if t407 = 0 then (if t406 = t364 then (if t409 = 0 then (if t365 = 0 then (if t368 > (wrap64 (t408 - 7)) then (some true) else (if t365 > 0 then (some ((wrap64 (Int.tdiv (wrap64 (t368 - 1)) 7)) == (wrap64 (t365 - 1)))) else (some false))) else (if t365 > 0 then (some ((wrap64 (Int.tdiv (wrap64 (t368 - 1)) 7)) == (wrap64 (t365 - 1)))) else (some false))) else (some false)) else (some false)) else (some false)) = some r := H
                have A165 := Aside0.mk A1650
                clear A1650
                by_cases c166 : t407 = 0
                · rw [if_pos c166] at H
                  have c166b0 : (t407 == 0) = true := beq_iff_eq.mpr c166
                  have c166b1 : (t407 != 0) = false := bne_eq_false_iff_eq.mpr c166
                  clear c166
                  by_cases c167 : t406 = t364
                  · rw [if_pos c167] at H
                    have c167b0 : (t406 == t364) = true := beq_iff_eq.mpr c167
                    have c167b1 : (t406 != t364) = false := bne_eq_false_iff_eq.mpr c167
                    clear c167
                    by_cases c168 : t409 = 0
                    · rw [if_pos c168] at H
                      have c168b0 : (t409 == 0) = true := beq_iff_eq.mpr c168
                      have c168b1 : (t409 != 0) = false := bne_eq_false_iff_eq.mpr c168
                      clear c168
                      by_cases c169 : t365 = 0
                      · rw [if_pos c169] at H
                        have c169b0 : (t365 == 0) = true := beq_iff_eq.mpr c169
                        have c169b1 : (t365 != 0) = false := bne_eq_false_iff_eq.mpr c169
                        clear c169
                        by_cases c170 : t368 > (wrap64 (t408 - 7))
                        · rw [if_pos c170] at H
                          have c170b0 : decide ((wrap64 (t408 - 7)) < t368) = true := decide_eq_true c170
                          clear c170
                          obtain rfl := Option.some.inj H
                          have hnb171 := NB370_375.out
                          have hnc171 := NB375_370.out
                          have hnb172 := NB370_385.out
                          have hnc172 := NB385_370.out
                          have hnb173 := NB370_395.out
                          have hnc173 := NB395_370.out
                          have hnb174 := NB370_400.out
                          have hnc174 := NB400_370.out
                          have hcz175_0 : wc.cell? ⟨gb370, 0, none⟩ = some (.int .i64 t366) := (blk_cell BK370.out 0).trans rfl
                          have hcz175_1 : wc.cell? ⟨gb370, 1, none⟩ = some (.int .i64 t367) := (blk_cell BK370.out 1).trans rfl
                          have hcz175_2 : wc.cell? ⟨gb370, 2, none⟩ = some (.int .i64 t368) := (blk_cell BK370.out 2).trans rfl
                          have hfz175_0 := blk_frozen BK370.out 0
                          have hfz175_1 := blk_frozen BK370.out 1
                          have hfz175_2 := blk_frozen BK370.out 2
                          go_wp2_with (first | ((with_reducible refine gate_callee (f := 19) rfl ?_); refine goesL_ (some 155) rfl rfl Tryd.func19 (by kernel_rfl) rfl #[.agg #[.int .i64 t366, .int .i64 t367, .int .i64 t368]] rfl (by (try simp only [List.map_toArray, List.map_cons, List.map_nil]); first | done | rfl | (simp only [List.length_drop, List.length_take]; rfl)) ?_; (with_reducible refine (impl_WeekdayOf.calls kj123 t366 t367 t368 t406 t407 _ A164.out).mono ?_); rintro e w176 ⟨rfl, hb⟩; refine ⟨_, rfl, ?_⟩; have n0_ := Aside0.mk (blk_below (g := gb370) (o := .cells #[.int .i64 t366, .int .i64 t367, .int .i64 t368] 27 (0, 0)) (by (with_reducible repeat (first | refine blk_drewN ?_ _ | refine blk_drew ?_ | refine blk_alloc ?_ _)); exact BK370.out) hb); have n1_ := Aside0.mk (blk_below (g := gb375) (o := .cells #[.int .i64 t371, .int .i64 t372, .int .i64 t373] 27 (0, 0)) (by (with_reducible repeat (first | refine blk_drewN ?_ _ | refine blk_drew ?_ | refine blk_alloc ?_ _)); exact BK375.out) hb); have n2_ := Aside0.mk (blk_below (g := gb385) (o := .cells #[.int .i64 t382, .int .i64 t383, .int .i64 t384] 27 (0, 0)) (by (with_reducible repeat (first | refine blk_drewN ?_ _ | refine blk_drew ?_ | refine blk_alloc ?_ _)); exact BK385.out) hb); have n3_ := Aside0.mk (blk_below (g := gb395) (o := .cells #[.int .i64 t391, .int .i64 t392, .int .i64 t393] 27 (0, 0)) (by (with_reducible repeat (first | refine blk_drewN ?_ _ | refine blk_drew ?_ | refine blk_alloc ?_ _)); exact BK395.out) hb); have n4_ := Aside0.mk (blk_below (g := gb400) (o := .cells #[.int .i64 t396, .int .i64 t397, .int .i64 t398] 27 (0, 0)) (by (with_reducible repeat (first | refine blk_drewN ?_ _ | refine blk_drew ?_ | refine blk_alloc ?_ _)); exact BK400.out) hb); have n5_ := Aside0.mk (below_step (by repeat (first | (with_reducible first | exact HB.out | apply below_alloc | apply pw_below_drewN | apply below_drew1 | refine below_set ?_ GE370.out | refine below_set ?_ GE375.out | refine below_set ?_ GE385.out | refine below_set ?_ GE395.out | refine below_set ?_ GE400.out) | exact HB.out)) hb); clear BK370; clear BK375; clear BK385; clear BK395; clear BK400; clear HB; have BK370 := n0_; have BK375 := n1_; have BK385 := n2_; have BK395 := n3_; have BK400 := n4_; have HB := n5_; clear n0_ n1_ n2_ n3_ n4_ n5_; (try clear hb); (try clear hb2); (try clear hk); (try clear hi)) | ((with_reducible refine gate_callee (f := 11) rfl ?_); refine goesL_ (some 161) rfl rfl Tryd.func11 (by kernel_rfl) rfl #[.int .i64 t362, .int .i64 t363] rfl (by (try simp only [List.map_toArray, List.map_cons, List.map_nil]); first | done | rfl | (simp only [List.length_drop, List.length_take]; rfl)) ?_; (with_reducible refine (impl_DaysInMonth.calls kj123 t362 t363 t408 t409 _ A165.out).mono ?_); rintro e w' ⟨rfl, ⟨nd, rfl⟩⟩; refine ⟨_, rfl, ?_⟩; have hcz177_0 : w176.cell? ⟨gb370, 0, none⟩ = some (.int .i64 t366) := (blk_cell BK370.out 0).trans rfl; have hcz177_1 : w176.cell? ⟨gb370, 1, none⟩ = some (.int .i64 t367) := (blk_cell BK370.out 1).trans rfl; have hcz177_2 : w176.cell? ⟨gb370, 2, none⟩ = some (.int .i64 t368) := (blk_cell BK370.out 2).trans rfl; have hfz177_0 := blk_frozen BK370.out 0; have hfz177_1 := blk_frozen BK370.out 1; have hfz177_2 := blk_frozen BK370.out 2))
                          go_ret
                          exact ⟨by first | rfl | (simp [errW_none, errW_some] <;> rfl) | (simp [*, errW_none, errW_some] <;> rfl), by repeat (first | (with_reducible first | exact HB.out | apply below_alloc | apply pw_below_drewN | apply below_drew1 | refine below_set ?_ GE370.out | refine below_set ?_ GE375.out | refine below_set ?_ GE385.out | refine below_set ?_ GE395.out | refine below_set ?_ GE400.out) | exact HB.out)⟩
                        · rw [if_neg c170] at H
                          have c170b0 : decide ((wrap64 (t408 - 7)) < t368) = false := decide_eq_false c170
                          clear c170
                          by_cases c178 : t365 > 0
                          · rw [if_pos c178] at H
                            have c178b0 : decide (0 < t365) = true := decide_eq_true c178
                            clear c178
                            obtain rfl := Option.some.inj H
                            have hnb179 := NB370_375.out
                            have hnc179 := NB375_370.out
                            have hnb180 := NB370_385.out
                            have hnc180 := NB385_370.out
                            have hnb181 := NB370_395.out
                            have hnc181 := NB395_370.out
                            have hnb182 := NB370_400.out
                            have hnc182 := NB400_370.out
                            have hcz183_0 : wc.cell? ⟨gb370, 0, none⟩ = some (.int .i64 t366) := (blk_cell BK370.out 0).trans rfl
                            have hcz183_1 : wc.cell? ⟨gb370, 1, none⟩ = some (.int .i64 t367) := (blk_cell BK370.out 1).trans rfl
                            have hcz183_2 : wc.cell? ⟨gb370, 2, none⟩ = some (.int .i64 t368) := (blk_cell BK370.out 2).trans rfl
                            have hfz183_0 := blk_frozen BK370.out 0
                            have hfz183_1 := blk_frozen BK370.out 1
                            have hfz183_2 := blk_frozen BK370.out 2
                            go_wp2_with (first | ((with_reducible refine gate_callee (f := 19) rfl ?_); refine goesL_ (some 155) rfl rfl Tryd.func19 (by kernel_rfl) rfl #[.agg #[.int .i64 t366, .int .i64 t367, .int .i64 t368]] rfl (by (try simp only [List.map_toArray, List.map_cons, List.map_nil]); first | done | rfl | (simp only [List.length_drop, List.length_take]; rfl)) ?_; (with_reducible refine (impl_WeekdayOf.calls kj123 t366 t367 t368 t406 t407 _ A164.out).mono ?_); rintro e w184 ⟨rfl, hb⟩; refine ⟨_, rfl, ?_⟩; have n0_ := Aside0.mk (blk_below (g := gb370) (o := .cells #[.int .i64 t366, .int .i64 t367, .int .i64 t368] 27 (0, 0)) (by (with_reducible repeat (first | refine blk_drewN ?_ _ | refine blk_drew ?_ | refine blk_alloc ?_ _)); exact BK370.out) hb); have n1_ := Aside0.mk (blk_below (g := gb375) (o := .cells #[.int .i64 t371, .int .i64 t372, .int .i64 t373] 27 (0, 0)) (by (with_reducible repeat (first | refine blk_drewN ?_ _ | refine blk_drew ?_ | refine blk_alloc ?_ _)); exact BK375.out) hb); have n2_ := Aside0.mk (blk_below (g := gb385) (o := .cells #[.int .i64 t382, .int .i64 t383, .int .i64 t384] 27 (0, 0)) (by (with_reducible repeat (first | refine blk_drewN ?_ _ | refine blk_drew ?_ | refine blk_alloc ?_ _)); exact BK385.out) hb); have n3_ := Aside0.mk (blk_below (g := gb395) (o := .cells #[.int .i64 t391, .int .i64 t392, .int .i64 t393] 27 (0, 0)) (by (with_reducible repeat (first | refine blk_drewN ?_ _ | refine blk_drew ?_ | refine blk_alloc ?_ _)); exact BK395.out) hb); have n4_ := Aside0.mk (blk_below (g := gb400) (o := .cells #[.int .i64 t396, .int .i64 t397, .int .i64 t398] 27 (0, 0)) (by (with_reducible repeat (first | refine blk_drewN ?_ _ | refine blk_drew ?_ | refine blk_alloc ?_ _)); exact BK400.out) hb); have n5_ := Aside0.mk (below_step (by repeat (first | (with_reducible first | exact HB.out | apply below_alloc | apply pw_below_drewN | apply below_drew1 | refine below_set ?_ GE370.out | refine below_set ?_ GE375.out | refine below_set ?_ GE385.out | refine below_set ?_ GE395.out | refine below_set ?_ GE400.out) | exact HB.out)) hb); clear BK370; clear BK375; clear BK385; clear BK395; clear BK400; clear HB; have BK370 := n0_; have BK375 := n1_; have BK385 := n2_; have BK395 := n3_; have BK400 := n4_; have HB := n5_; clear n0_ n1_ n2_ n3_ n4_ n5_; (try clear hb); (try clear hb2); (try clear hk); (try clear hi)) | ((with_reducible refine gate_callee (f := 11) rfl ?_); refine goesL_ (some 161) rfl rfl Tryd.func11 (by kernel_rfl) rfl #[.int .i64 t362, .int .i64 t363] rfl (by (try simp only [List.map_toArray, List.map_cons, List.map_nil]); first | done | rfl | (simp only [List.length_drop, List.length_take]; rfl)) ?_; (with_reducible refine (impl_DaysInMonth.calls kj123 t362 t363 t408 t409 _ A165.out).mono ?_); rintro e w' ⟨rfl, ⟨nd, rfl⟩⟩; refine ⟨_, rfl, ?_⟩; have hcz185_0 : w184.cell? ⟨gb370, 0, none⟩ = some (.int .i64 t366) := (blk_cell BK370.out 0).trans rfl; have hcz185_1 : w184.cell? ⟨gb370, 1, none⟩ = some (.int .i64 t367) := (blk_cell BK370.out 1).trans rfl; have hcz185_2 : w184.cell? ⟨gb370, 2, none⟩ = some (.int .i64 t368) := (blk_cell BK370.out 2).trans rfl; have hfz185_0 := blk_frozen BK370.out 0; have hfz185_1 := blk_frozen BK370.out 1; have hfz185_2 := blk_frozen BK370.out 2))
                            go_ret
                            exact ⟨by first | rfl | (simp [errW_none, errW_some] <;> rfl) | (simp [*, errW_none, errW_some] <;> rfl), by repeat (first | (with_reducible first | exact HB.out | apply below_alloc | apply pw_below_drewN | apply below_drew1 | refine below_set ?_ GE370.out | refine below_set ?_ GE375.out | refine below_set ?_ GE385.out | refine below_set ?_ GE395.out | refine below_set ?_ GE400.out) | exact HB.out)⟩
                          · rw [if_neg c178] at H
                            have c178b0 : decide (0 < t365) = false := decide_eq_false c178
                            clear c178
                            obtain rfl := Option.some.inj H
                            have hnb186 := NB370_375.out
                            have hnc186 := NB375_370.out
                            have hnb187 := NB370_385.out
                            have hnc187 := NB385_370.out
                            have hnb188 := NB370_395.out
                            have hnc188 := NB395_370.out
                            have hnb189 := NB370_400.out
                            have hnc189 := NB400_370.out
                            have hcz190_0 : wc.cell? ⟨gb370, 0, none⟩ = some (.int .i64 t366) := (blk_cell BK370.out 0).trans rfl
                            have hcz190_1 : wc.cell? ⟨gb370, 1, none⟩ = some (.int .i64 t367) := (blk_cell BK370.out 1).trans rfl
                            have hcz190_2 : wc.cell? ⟨gb370, 2, none⟩ = some (.int .i64 t368) := (blk_cell BK370.out 2).trans rfl
                            have hfz190_0 := blk_frozen BK370.out 0
                            have hfz190_1 := blk_frozen BK370.out 1
                            have hfz190_2 := blk_frozen BK370.out 2
                            go_wp2_with (first | ((with_reducible refine gate_callee (f := 19) rfl ?_); refine goesL_ (some 155) rfl rfl Tryd.func19 (by kernel_rfl) rfl #[.agg #[.int .i64 t366, .int .i64 t367, .int .i64 t368]] rfl (by (try simp only [List.map_toArray, List.map_cons, List.map_nil]); first | done | rfl | (simp only [List.length_drop, List.length_take]; rfl)) ?_; (with_reducible refine (impl_WeekdayOf.calls kj123 t366 t367 t368 t406 t407 _ A164.out).mono ?_); rintro e w191 ⟨rfl, hb⟩; refine ⟨_, rfl, ?_⟩; have n0_ := Aside0.mk (blk_below (g := gb370) (o := .cells #[.int .i64 t366, .int .i64 t367, .int .i64 t368] 27 (0, 0)) (by (with_reducible repeat (first | refine blk_drewN ?_ _ | refine blk_drew ?_ | refine blk_alloc ?_ _)); exact BK370.out) hb); have n1_ := Aside0.mk (blk_below (g := gb375) (o := .cells #[.int .i64 t371, .int .i64 t372, .int .i64 t373] 27 (0, 0)) (by (with_reducible repeat (first | refine blk_drewN ?_ _ | refine blk_drew ?_ | refine blk_alloc ?_ _)); exact BK375.out) hb); have n2_ := Aside0.mk (blk_below (g := gb385) (o := .cells #[.int .i64 t382, .int .i64 t383, .int .i64 t384] 27 (0, 0)) (by (with_reducible repeat (first | refine blk_drewN ?_ _ | refine blk_drew ?_ | refine blk_alloc ?_ _)); exact BK385.out) hb); have n3_ := Aside0.mk (blk_below (g := gb395) (o := .cells #[.int .i64 t391, .int .i64 t392, .int .i64 t393] 27 (0, 0)) (by (with_reducible repeat (first | refine blk_drewN ?_ _ | refine blk_drew ?_ | refine blk_alloc ?_ _)); exact BK395.out) hb); have n4_ := Aside0.mk (blk_below (g := gb400) (o := .cells #[.int .i64 t396, .int .i64 t397, .int .i64 t398] 27 (0, 0)) (by (with_reducible repeat (first | refine blk_drewN ?_ _ | refine blk_drew ?_ | refine blk_alloc ?_ _)); exact BK400.out) hb); have n5_ := Aside0.mk (below_step (by repeat (first | (with_reducible first | exact HB.out | apply below_alloc | apply pw_below_drewN | apply below_drew1 | refine below_set ?_ GE370.out | refine below_set ?_ GE375.out | refine below_set ?_ GE385.out | refine below_set ?_ GE395.out | refine below_set ?_ GE400.out) | exact HB.out)) hb); clear BK370; clear BK375; clear BK385; clear BK395; clear BK400; clear HB; have BK370 := n0_; have BK375 := n1_; have BK385 := n2_; have BK395 := n3_; have BK400 := n4_; have HB := n5_; clear n0_ n1_ n2_ n3_ n4_ n5_; (try clear hb); (try clear hb2); (try clear hk); (try clear hi)) | ((with_reducible refine gate_callee (f := 11) rfl ?_); refine goesL_ (some 161) rfl rfl Tryd.func11 (by kernel_rfl) rfl #[.int .i64 t362, .int .i64 t363] rfl (by (try simp only [List.map_toArray, List.map_cons, List.map_nil]); first | done | rfl | (simp only [List.length_drop, List.length_take]; rfl)) ?_; (with_reducible refine (impl_DaysInMonth.calls kj123 t362 t363 t408 t409 _ A165.out).mono ?_); rintro e w' ⟨rfl, ⟨nd, rfl⟩⟩; refine ⟨_, rfl, ?_⟩; have hcz192_0 : w191.cell? ⟨gb370, 0, none⟩ = some (.int .i64 t366) := (blk_cell BK370.out 0).trans rfl; have hcz192_1 : w191.cell? ⟨gb370, 1, none⟩ = some (.int .i64 t367) := (blk_cell BK370.out 1).trans rfl; have hcz192_2 : w191.cell? ⟨gb370, 2, none⟩ = some (.int .i64 t368) := (blk_cell BK370.out 2).trans rfl; have hfz192_0 := blk_frozen BK370.out 0; have hfz192_1 := blk_frozen BK370.out 1; have hfz192_2 := blk_frozen BK370.out 2))
                            go_ret
                            exact ⟨by first | rfl | (simp [errW_none, errW_some] <;> rfl) | (simp [*, errW_none, errW_some] <;> rfl), by repeat (first | (with_reducible first | exact HB.out | apply below_alloc | apply pw_below_drewN | apply below_drew1 | refine below_set ?_ GE370.out | refine below_set ?_ GE375.out | refine below_set ?_ GE385.out | refine below_set ?_ GE395.out | refine below_set ?_ GE400.out) | exact HB.out)⟩
                      · rw [if_neg c169] at H
                        have c169b0 : (t365 == 0) = false := beq_eq_false_iff_ne.mpr c169
                        have c169b1 : (t365 != 0) = true := bne_iff_ne.mpr c169
                        by_cases c193 : t365 > 0
                        · rw [if_pos c193] at H
                          have c193b0 : decide (0 < t365) = true := decide_eq_true c193
                          clear c193
                          obtain rfl := Option.some.inj H
                          have hnb194 := NB370_375.out
                          have hnc194 := NB375_370.out
                          have hnb195 := NB370_385.out
                          have hnc195 := NB385_370.out
                          have hnb196 := NB370_395.out
                          have hnc196 := NB395_370.out
                          have hnb197 := NB370_400.out
                          have hnc197 := NB400_370.out
                          have hcz198_0 : wc.cell? ⟨gb370, 0, none⟩ = some (.int .i64 t366) := (blk_cell BK370.out 0).trans rfl
                          have hcz198_1 : wc.cell? ⟨gb370, 1, none⟩ = some (.int .i64 t367) := (blk_cell BK370.out 1).trans rfl
                          have hcz198_2 : wc.cell? ⟨gb370, 2, none⟩ = some (.int .i64 t368) := (blk_cell BK370.out 2).trans rfl
                          have hfz198_0 := blk_frozen BK370.out 0
                          have hfz198_1 := blk_frozen BK370.out 1
                          have hfz198_2 := blk_frozen BK370.out 2
                          go_wp2_with (first | ((with_reducible refine gate_callee (f := 19) rfl ?_); refine goesL_ (some 155) rfl rfl Tryd.func19 (by kernel_rfl) rfl #[.agg #[.int .i64 t366, .int .i64 t367, .int .i64 t368]] rfl (by (try simp only [List.map_toArray, List.map_cons, List.map_nil]); first | done | rfl | (simp only [List.length_drop, List.length_take]; rfl)) ?_; (with_reducible refine (impl_WeekdayOf.calls kj123 t366 t367 t368 t406 t407 _ A164.out).mono ?_); rintro e w199 ⟨rfl, hb⟩; refine ⟨_, rfl, ?_⟩; have n0_ := Aside0.mk (blk_below (g := gb370) (o := .cells #[.int .i64 t366, .int .i64 t367, .int .i64 t368] 27 (0, 0)) (by (with_reducible repeat (first | refine blk_drewN ?_ _ | refine blk_drew ?_ | refine blk_alloc ?_ _)); exact BK370.out) hb); have n1_ := Aside0.mk (blk_below (g := gb375) (o := .cells #[.int .i64 t371, .int .i64 t372, .int .i64 t373] 27 (0, 0)) (by (with_reducible repeat (first | refine blk_drewN ?_ _ | refine blk_drew ?_ | refine blk_alloc ?_ _)); exact BK375.out) hb); have n2_ := Aside0.mk (blk_below (g := gb385) (o := .cells #[.int .i64 t382, .int .i64 t383, .int .i64 t384] 27 (0, 0)) (by (with_reducible repeat (first | refine blk_drewN ?_ _ | refine blk_drew ?_ | refine blk_alloc ?_ _)); exact BK385.out) hb); have n3_ := Aside0.mk (blk_below (g := gb395) (o := .cells #[.int .i64 t391, .int .i64 t392, .int .i64 t393] 27 (0, 0)) (by (with_reducible repeat (first | refine blk_drewN ?_ _ | refine blk_drew ?_ | refine blk_alloc ?_ _)); exact BK395.out) hb); have n4_ := Aside0.mk (blk_below (g := gb400) (o := .cells #[.int .i64 t396, .int .i64 t397, .int .i64 t398] 27 (0, 0)) (by (with_reducible repeat (first | refine blk_drewN ?_ _ | refine blk_drew ?_ | refine blk_alloc ?_ _)); exact BK400.out) hb); have n5_ := Aside0.mk (below_step (by repeat (first | (with_reducible first | exact HB.out | apply below_alloc | apply pw_below_drewN | apply below_drew1 | refine below_set ?_ GE370.out | refine below_set ?_ GE375.out | refine below_set ?_ GE385.out | refine below_set ?_ GE395.out | refine below_set ?_ GE400.out) | exact HB.out)) hb); clear BK370; clear BK375; clear BK385; clear BK395; clear BK400; clear HB; have BK370 := n0_; have BK375 := n1_; have BK385 := n2_; have BK395 := n3_; have BK400 := n4_; have HB := n5_; clear n0_ n1_ n2_ n3_ n4_ n5_; (try clear hb); (try clear hb2); (try clear hk); (try clear hi)) | ((with_reducible refine gate_callee (f := 11) rfl ?_); refine goesL_ (some 161) rfl rfl Tryd.func11 (by kernel_rfl) rfl #[.int .i64 t362, .int .i64 t363] rfl (by (try simp only [List.map_toArray, List.map_cons, List.map_nil]); first | done | rfl | (simp only [List.length_drop, List.length_take]; rfl)) ?_; (with_reducible refine (impl_DaysInMonth.calls kj123 t362 t363 t408 t409 _ A165.out).mono ?_); rintro e w' ⟨rfl, ⟨nd, rfl⟩⟩; refine ⟨_, rfl, ?_⟩; have hcz200_0 : w199.cell? ⟨gb370, 0, none⟩ = some (.int .i64 t366) := (blk_cell BK370.out 0).trans rfl; have hcz200_1 : w199.cell? ⟨gb370, 1, none⟩ = some (.int .i64 t367) := (blk_cell BK370.out 1).trans rfl; have hcz200_2 : w199.cell? ⟨gb370, 2, none⟩ = some (.int .i64 t368) := (blk_cell BK370.out 2).trans rfl; have hfz200_0 := blk_frozen BK370.out 0; have hfz200_1 := blk_frozen BK370.out 1; have hfz200_2 := blk_frozen BK370.out 2))
                          go_ret
                          exact ⟨by first | rfl | (simp [errW_none, errW_some] <;> rfl) | (simp [*, errW_none, errW_some] <;> rfl), by repeat (first | (with_reducible first | exact HB.out | apply below_alloc | apply pw_below_drewN | apply below_drew1 | refine below_set ?_ GE370.out | refine below_set ?_ GE375.out | refine below_set ?_ GE385.out | refine below_set ?_ GE395.out | refine below_set ?_ GE400.out) | exact HB.out)⟩
                        · rw [if_neg c193] at H
                          have c193b0 : decide (0 < t365) = false := decide_eq_false c193
                          clear c193
                          obtain rfl := Option.some.inj H
                          have hnb201 := NB370_375.out
                          have hnc201 := NB375_370.out
                          have hnb202 := NB370_385.out
                          have hnc202 := NB385_370.out
                          have hnb203 := NB370_395.out
                          have hnc203 := NB395_370.out
                          have hnb204 := NB370_400.out
                          have hnc204 := NB400_370.out
                          have hcz205_0 : wc.cell? ⟨gb370, 0, none⟩ = some (.int .i64 t366) := (blk_cell BK370.out 0).trans rfl
                          have hcz205_1 : wc.cell? ⟨gb370, 1, none⟩ = some (.int .i64 t367) := (blk_cell BK370.out 1).trans rfl
                          have hcz205_2 : wc.cell? ⟨gb370, 2, none⟩ = some (.int .i64 t368) := (blk_cell BK370.out 2).trans rfl
                          have hfz205_0 := blk_frozen BK370.out 0
                          have hfz205_1 := blk_frozen BK370.out 1
                          have hfz205_2 := blk_frozen BK370.out 2
                          go_wp2_with (first | ((with_reducible refine gate_callee (f := 19) rfl ?_); refine goesL_ (some 155) rfl rfl Tryd.func19 (by kernel_rfl) rfl #[.agg #[.int .i64 t366, .int .i64 t367, .int .i64 t368]] rfl (by (try simp only [List.map_toArray, List.map_cons, List.map_nil]); first | done | rfl | (simp only [List.length_drop, List.length_take]; rfl)) ?_; (with_reducible refine (impl_WeekdayOf.calls kj123 t366 t367 t368 t406 t407 _ A164.out).mono ?_); rintro e w206 ⟨rfl, hb⟩; refine ⟨_, rfl, ?_⟩; have n0_ := Aside0.mk (blk_below (g := gb370) (o := .cells #[.int .i64 t366, .int .i64 t367, .int .i64 t368] 27 (0, 0)) (by (with_reducible repeat (first | refine blk_drewN ?_ _ | refine blk_drew ?_ | refine blk_alloc ?_ _)); exact BK370.out) hb); have n1_ := Aside0.mk (blk_below (g := gb375) (o := .cells #[.int .i64 t371, .int .i64 t372, .int .i64 t373] 27 (0, 0)) (by (with_reducible repeat (first | refine blk_drewN ?_ _ | refine blk_drew ?_ | refine blk_alloc ?_ _)); exact BK375.out) hb); have n2_ := Aside0.mk (blk_below (g := gb385) (o := .cells #[.int .i64 t382, .int .i64 t383, .int .i64 t384] 27 (0, 0)) (by (with_reducible repeat (first | refine blk_drewN ?_ _ | refine blk_drew ?_ | refine blk_alloc ?_ _)); exact BK385.out) hb); have n3_ := Aside0.mk (blk_below (g := gb395) (o := .cells #[.int .i64 t391, .int .i64 t392, .int .i64 t393] 27 (0, 0)) (by (with_reducible repeat (first | refine blk_drewN ?_ _ | refine blk_drew ?_ | refine blk_alloc ?_ _)); exact BK395.out) hb); have n4_ := Aside0.mk (blk_below (g := gb400) (o := .cells #[.int .i64 t396, .int .i64 t397, .int .i64 t398] 27 (0, 0)) (by (with_reducible repeat (first | refine blk_drewN ?_ _ | refine blk_drew ?_ | refine blk_alloc ?_ _)); exact BK400.out) hb); have n5_ := Aside0.mk (below_step (by repeat (first | (with_reducible first | exact HB.out | apply below_alloc | apply pw_below_drewN | apply below_drew1 | refine below_set ?_ GE370.out | refine below_set ?_ GE375.out | refine below_set ?_ GE385.out | refine below_set ?_ GE395.out | refine below_set ?_ GE400.out) | exact HB.out)) hb); clear BK370; clear BK375; clear BK385; clear BK395; clear BK400; clear HB; have BK370 := n0_; have BK375 := n1_; have BK385 := n2_; have BK395 := n3_; have BK400 := n4_; have HB := n5_; clear n0_ n1_ n2_ n3_ n4_ n5_; (try clear hb); (try clear hb2); (try clear hk); (try clear hi)) | ((with_reducible refine gate_callee (f := 11) rfl ?_); refine goesL_ (some 161) rfl rfl Tryd.func11 (by kernel_rfl) rfl #[.int .i64 t362, .int .i64 t363] rfl (by (try simp only [List.map_toArray, List.map_cons, List.map_nil]); first | done | rfl | (simp only [List.length_drop, List.length_take]; rfl)) ?_; (with_reducible refine (impl_DaysInMonth.calls kj123 t362 t363 t408 t409 _ A165.out).mono ?_); rintro e w' ⟨rfl, ⟨nd, rfl⟩⟩; refine ⟨_, rfl, ?_⟩))
                          go_ret
                          exact ⟨by first | rfl | (simp [errW_none, errW_some] <;> rfl) | (simp [*, errW_none, errW_some] <;> rfl), by repeat (first | (with_reducible first | exact HB.out | apply below_alloc | apply pw_below_drewN | apply below_drew1 | refine below_set ?_ GE370.out | refine below_set ?_ GE375.out | refine below_set ?_ GE385.out | refine below_set ?_ GE395.out | refine below_set ?_ GE400.out) | exact HB.out)⟩
                    · rw [if_neg c168] at H
                      have c168b0 : (t409 == 0) = false := beq_eq_false_iff_ne.mpr c168
                      have c168b1 : (t409 != 0) = true := bne_iff_ne.mpr c168
                      obtain rfl := Option.some.inj H
                      have hnb207 := NB370_375.out
                      have hnc207 := NB375_370.out
                      have hnb208 := NB370_385.out
                      have hnc208 := NB385_370.out
                      have hnb209 := NB370_395.out
                      have hnc209 := NB395_370.out
                      have hnb210 := NB370_400.out
                      have hnc210 := NB400_370.out
                      have hcz211_0 : wc.cell? ⟨gb370, 0, none⟩ = some (.int .i64 t366) := (blk_cell BK370.out 0).trans rfl
                      have hcz211_1 : wc.cell? ⟨gb370, 1, none⟩ = some (.int .i64 t367) := (blk_cell BK370.out 1).trans rfl
                      have hcz211_2 : wc.cell? ⟨gb370, 2, none⟩ = some (.int .i64 t368) := (blk_cell BK370.out 2).trans rfl
                      have hfz211_0 := blk_frozen BK370.out 0
                      have hfz211_1 := blk_frozen BK370.out 1
                      have hfz211_2 := blk_frozen BK370.out 2
                      go_wp2_with (first | ((with_reducible refine gate_callee (f := 19) rfl ?_); refine goesL_ (some 155) rfl rfl Tryd.func19 (by kernel_rfl) rfl #[.agg #[.int .i64 t366, .int .i64 t367, .int .i64 t368]] rfl (by (try simp only [List.map_toArray, List.map_cons, List.map_nil]); first | done | rfl | (simp only [List.length_drop, List.length_take]; rfl)) ?_; (with_reducible refine (impl_WeekdayOf.calls kj123 t366 t367 t368 t406 t407 _ A164.out).mono ?_); rintro e w212 ⟨rfl, hb⟩; refine ⟨_, rfl, ?_⟩; have n0_ := Aside0.mk (blk_below (g := gb370) (o := .cells #[.int .i64 t366, .int .i64 t367, .int .i64 t368] 27 (0, 0)) (by (with_reducible repeat (first | refine blk_drewN ?_ _ | refine blk_drew ?_ | refine blk_alloc ?_ _)); exact BK370.out) hb); have n1_ := Aside0.mk (blk_below (g := gb375) (o := .cells #[.int .i64 t371, .int .i64 t372, .int .i64 t373] 27 (0, 0)) (by (with_reducible repeat (first | refine blk_drewN ?_ _ | refine blk_drew ?_ | refine blk_alloc ?_ _)); exact BK375.out) hb); have n2_ := Aside0.mk (blk_below (g := gb385) (o := .cells #[.int .i64 t382, .int .i64 t383, .int .i64 t384] 27 (0, 0)) (by (with_reducible repeat (first | refine blk_drewN ?_ _ | refine blk_drew ?_ | refine blk_alloc ?_ _)); exact BK385.out) hb); have n3_ := Aside0.mk (blk_below (g := gb395) (o := .cells #[.int .i64 t391, .int .i64 t392, .int .i64 t393] 27 (0, 0)) (by (with_reducible repeat (first | refine blk_drewN ?_ _ | refine blk_drew ?_ | refine blk_alloc ?_ _)); exact BK395.out) hb); have n4_ := Aside0.mk (blk_below (g := gb400) (o := .cells #[.int .i64 t396, .int .i64 t397, .int .i64 t398] 27 (0, 0)) (by (with_reducible repeat (first | refine blk_drewN ?_ _ | refine blk_drew ?_ | refine blk_alloc ?_ _)); exact BK400.out) hb); have n5_ := Aside0.mk (below_step (by repeat (first | (with_reducible first | exact HB.out | apply below_alloc | apply pw_below_drewN | apply below_drew1 | refine below_set ?_ GE370.out | refine below_set ?_ GE375.out | refine below_set ?_ GE385.out | refine below_set ?_ GE395.out | refine below_set ?_ GE400.out) | exact HB.out)) hb); clear BK370; clear BK375; clear BK385; clear BK395; clear BK400; clear HB; have BK370 := n0_; have BK375 := n1_; have BK385 := n2_; have BK395 := n3_; have BK400 := n4_; have HB := n5_; clear n0_ n1_ n2_ n3_ n4_ n5_; (try clear hb); (try clear hb2); (try clear hk); (try clear hi)) | ((with_reducible refine gate_callee (f := 11) rfl ?_); refine goesL_ (some 161) rfl rfl Tryd.func11 (by kernel_rfl) rfl #[.int .i64 t362, .int .i64 t363] rfl (by (try simp only [List.map_toArray, List.map_cons, List.map_nil]); first | done | rfl | (simp only [List.length_drop, List.length_take]; rfl)) ?_; (with_reducible refine (impl_DaysInMonth.calls kj123 t362 t363 t408 t409 _ A165.out).mono ?_); rintro e w' ⟨rfl, ⟨nd, rfl⟩⟩; refine ⟨_, rfl, ?_⟩))
                      go_ret
                      exact ⟨by first | rfl | (simp [errW_none, errW_some] <;> rfl) | (simp [*, errW_none, errW_some] <;> rfl), by repeat (first | (with_reducible first | exact HB.out | apply below_alloc | apply pw_below_drewN | apply below_drew1 | refine below_set ?_ GE370.out | refine below_set ?_ GE375.out | refine below_set ?_ GE385.out | refine below_set ?_ GE395.out | refine below_set ?_ GE400.out) | exact HB.out)⟩
                  · rw [if_neg c167] at H
                    have c167b0 : (t406 == t364) = false := beq_eq_false_iff_ne.mpr c167
                    have c167b1 : (t406 != t364) = true := bne_iff_ne.mpr c167
                    obtain rfl := Option.some.inj H
                    have hnb213 := NB370_375.out
                    have hnc213 := NB375_370.out
                    have hnb214 := NB370_385.out
                    have hnc214 := NB385_370.out
                    have hnb215 := NB370_395.out
                    have hnc215 := NB395_370.out
                    have hnb216 := NB370_400.out
                    have hnc216 := NB400_370.out
                    have hcz217_0 : wc.cell? ⟨gb370, 0, none⟩ = some (.int .i64 t366) := (blk_cell BK370.out 0).trans rfl
                    have hcz217_1 : wc.cell? ⟨gb370, 1, none⟩ = some (.int .i64 t367) := (blk_cell BK370.out 1).trans rfl
                    have hcz217_2 : wc.cell? ⟨gb370, 2, none⟩ = some (.int .i64 t368) := (blk_cell BK370.out 2).trans rfl
                    have hfz217_0 := blk_frozen BK370.out 0
                    have hfz217_1 := blk_frozen BK370.out 1
                    have hfz217_2 := blk_frozen BK370.out 2
                    go_wp2_with (first | ((with_reducible refine gate_callee (f := 19) rfl ?_); refine goesL_ (some 155) rfl rfl Tryd.func19 (by kernel_rfl) rfl #[.agg #[.int .i64 t366, .int .i64 t367, .int .i64 t368]] rfl (by (try simp only [List.map_toArray, List.map_cons, List.map_nil]); first | done | rfl | (simp only [List.length_drop, List.length_take]; rfl)) ?_; (with_reducible refine (impl_WeekdayOf.calls kj123 t366 t367 t368 t406 t407 _ A164.out).mono ?_); rintro e w218 ⟨rfl, hb⟩; refine ⟨_, rfl, ?_⟩; have n0_ := Aside0.mk (blk_below (g := gb370) (o := .cells #[.int .i64 t366, .int .i64 t367, .int .i64 t368] 27 (0, 0)) (by (with_reducible repeat (first | refine blk_drewN ?_ _ | refine blk_drew ?_ | refine blk_alloc ?_ _)); exact BK370.out) hb); have n1_ := Aside0.mk (blk_below (g := gb375) (o := .cells #[.int .i64 t371, .int .i64 t372, .int .i64 t373] 27 (0, 0)) (by (with_reducible repeat (first | refine blk_drewN ?_ _ | refine blk_drew ?_ | refine blk_alloc ?_ _)); exact BK375.out) hb); have n2_ := Aside0.mk (blk_below (g := gb385) (o := .cells #[.int .i64 t382, .int .i64 t383, .int .i64 t384] 27 (0, 0)) (by (with_reducible repeat (first | refine blk_drewN ?_ _ | refine blk_drew ?_ | refine blk_alloc ?_ _)); exact BK385.out) hb); have n3_ := Aside0.mk (blk_below (g := gb395) (o := .cells #[.int .i64 t391, .int .i64 t392, .int .i64 t393] 27 (0, 0)) (by (with_reducible repeat (first | refine blk_drewN ?_ _ | refine blk_drew ?_ | refine blk_alloc ?_ _)); exact BK395.out) hb); have n4_ := Aside0.mk (blk_below (g := gb400) (o := .cells #[.int .i64 t396, .int .i64 t397, .int .i64 t398] 27 (0, 0)) (by (with_reducible repeat (first | refine blk_drewN ?_ _ | refine blk_drew ?_ | refine blk_alloc ?_ _)); exact BK400.out) hb); have n5_ := Aside0.mk (below_step (by repeat (first | (with_reducible first | exact HB.out | apply below_alloc | apply pw_below_drewN | apply below_drew1 | refine below_set ?_ GE370.out | refine below_set ?_ GE375.out | refine below_set ?_ GE385.out | refine below_set ?_ GE395.out | refine below_set ?_ GE400.out) | exact HB.out)) hb); clear BK370; clear BK375; clear BK385; clear BK395; clear BK400; clear HB; have BK370 := n0_; have BK375 := n1_; have BK385 := n2_; have BK395 := n3_; have BK400 := n4_; have HB := n5_; clear n0_ n1_ n2_ n3_ n4_ n5_; (try clear hb); (try clear hb2); (try clear hk); (try clear hi)) | ((with_reducible refine gate_callee (f := 11) rfl ?_); refine goesL_ (some 161) rfl rfl Tryd.func11 (by kernel_rfl) rfl #[.int .i64 t362, .int .i64 t363] rfl (by (try simp only [List.map_toArray, List.map_cons, List.map_nil]); first | done | rfl | (simp only [List.length_drop, List.length_take]; rfl)) ?_; (with_reducible refine (impl_DaysInMonth.calls kj123 t362 t363 t408 t409 _ A165.out).mono ?_); rintro e w' ⟨rfl, ⟨nd, rfl⟩⟩; refine ⟨_, rfl, ?_⟩))
                    go_ret
                    exact ⟨by first | rfl | (simp [errW_none, errW_some] <;> rfl) | (simp [*, errW_none, errW_some] <;> rfl), by repeat (first | (with_reducible first | exact HB.out | apply below_alloc | apply pw_below_drewN | apply below_drew1 | refine below_set ?_ GE370.out | refine below_set ?_ GE375.out | refine below_set ?_ GE385.out | refine below_set ?_ GE395.out | refine below_set ?_ GE400.out) | exact HB.out)⟩
                · rw [if_neg c166] at H
                  have c166b0 : (t407 == 0) = false := beq_eq_false_iff_ne.mpr c166
                  have c166b1 : (t407 != 0) = true := bne_iff_ne.mpr c166
                  obtain rfl := Option.some.inj H
                  have hnb219 := NB370_375.out
                  have hnc219 := NB375_370.out
                  have hnb220 := NB370_385.out
                  have hnc220 := NB385_370.out
                  have hnb221 := NB370_395.out
                  have hnc221 := NB395_370.out
                  have hnb222 := NB370_400.out
                  have hnc222 := NB400_370.out
                  have hcz223_0 : wc.cell? ⟨gb370, 0, none⟩ = some (.int .i64 t366) := (blk_cell BK370.out 0).trans rfl
                  have hcz223_1 : wc.cell? ⟨gb370, 1, none⟩ = some (.int .i64 t367) := (blk_cell BK370.out 1).trans rfl
                  have hcz223_2 : wc.cell? ⟨gb370, 2, none⟩ = some (.int .i64 t368) := (blk_cell BK370.out 2).trans rfl
                  have hfz223_0 := blk_frozen BK370.out 0
                  have hfz223_1 := blk_frozen BK370.out 1
                  have hfz223_2 := blk_frozen BK370.out 2
                  go_wp2_with (first | ((with_reducible refine gate_callee (f := 19) rfl ?_); refine goesL_ (some 155) rfl rfl Tryd.func19 (by kernel_rfl) rfl #[.agg #[.int .i64 t366, .int .i64 t367, .int .i64 t368]] rfl (by (try simp only [List.map_toArray, List.map_cons, List.map_nil]); first | done | rfl | (simp only [List.length_drop, List.length_take]; rfl)) ?_; (with_reducible refine (impl_WeekdayOf.calls kj123 t366 t367 t368 t406 t407 _ A164.out).mono ?_); rintro e w224 ⟨rfl, hb⟩; refine ⟨_, rfl, ?_⟩; have n0_ := Aside0.mk (blk_below (g := gb370) (o := .cells #[.int .i64 t366, .int .i64 t367, .int .i64 t368] 27 (0, 0)) (by (with_reducible repeat (first | refine blk_drewN ?_ _ | refine blk_drew ?_ | refine blk_alloc ?_ _)); exact BK370.out) hb); have n1_ := Aside0.mk (blk_below (g := gb375) (o := .cells #[.int .i64 t371, .int .i64 t372, .int .i64 t373] 27 (0, 0)) (by (with_reducible repeat (first | refine blk_drewN ?_ _ | refine blk_drew ?_ | refine blk_alloc ?_ _)); exact BK375.out) hb); have n2_ := Aside0.mk (blk_below (g := gb385) (o := .cells #[.int .i64 t382, .int .i64 t383, .int .i64 t384] 27 (0, 0)) (by (with_reducible repeat (first | refine blk_drewN ?_ _ | refine blk_drew ?_ | refine blk_alloc ?_ _)); exact BK385.out) hb); have n3_ := Aside0.mk (blk_below (g := gb395) (o := .cells #[.int .i64 t391, .int .i64 t392, .int .i64 t393] 27 (0, 0)) (by (with_reducible repeat (first | refine blk_drewN ?_ _ | refine blk_drew ?_ | refine blk_alloc ?_ _)); exact BK395.out) hb); have n4_ := Aside0.mk (blk_below (g := gb400) (o := .cells #[.int .i64 t396, .int .i64 t397, .int .i64 t398] 27 (0, 0)) (by (with_reducible repeat (first | refine blk_drewN ?_ _ | refine blk_drew ?_ | refine blk_alloc ?_ _)); exact BK400.out) hb); have n5_ := Aside0.mk (below_step (by repeat (first | (with_reducible first | exact HB.out | apply below_alloc | apply pw_below_drewN | apply below_drew1 | refine below_set ?_ GE370.out | refine below_set ?_ GE375.out | refine below_set ?_ GE385.out | refine below_set ?_ GE395.out | refine below_set ?_ GE400.out) | exact HB.out)) hb); clear BK370; clear BK375; clear BK385; clear BK395; clear BK400; clear HB; have BK370 := n0_; have BK375 := n1_; have BK385 := n2_; have BK395 := n3_; have BK400 := n4_; have HB := n5_; clear n0_ n1_ n2_ n3_ n4_ n5_; (try clear hb); (try clear hb2); (try clear hk); (try clear hi)) | ((with_reducible refine gate_callee (f := 11) rfl ?_); refine goesL_ (some 161) rfl rfl Tryd.func11 (by kernel_rfl) rfl #[.int .i64 t362, .int .i64 t363] rfl (by (try simp only [List.map_toArray, List.map_cons, List.map_nil]); first | done | rfl | (simp only [List.length_drop, List.length_take]; rfl)) ?_; (with_reducible refine (impl_DaysInMonth.calls kj123 t362 t363 t408 t409 _ A165.out).mono ?_); rintro e w' ⟨rfl, ⟨nd, rfl⟩⟩; refine ⟨_, rfl, ?_⟩))
                  go_ret
                  exact ⟨by first | rfl | (simp [errW_none, errW_some] <;> rfl) | (simp [*, errW_none, errW_some] <;> rfl), by repeat (first | (with_reducible first | exact HB.out | apply below_alloc | apply pw_below_drewN | apply below_drew1 | refine below_set ?_ GE370.out | refine below_set ?_ GE375.out | refine below_set ?_ GE385.out | refine below_set ?_ GE395.out | refine below_set ?_ GE400.out) | exact HB.out)⟩
              · rw [if_neg c163] at H
                have c163b0 : (t369 == 0) = false := beq_eq_false_iff_ne.mpr c163
                have c163b1 : (t369 != 0) = true := bne_iff_ne.mpr c163
                obtain rfl := Option.some.inj H
                go_wp2
                go_ret
                exact ⟨by first | rfl | (simp [errW_none, errW_some] <;> rfl) | (simp [*, errW_none, errW_some] <;> rfl), by repeat (first | (with_reducible first | exact HB.out | apply below_alloc | apply pw_below_drewN | apply below_drew1 | refine below_set ?_ GE370.out | refine below_set ?_ GE375.out | refine below_set ?_ GE385.out | refine below_set ?_ GE395.out | refine below_set ?_ GE400.out) | exact HB.out)⟩

/-- THE ONE PURE STATEMENT of laws_FnMonths: yours. -/
def laws_FnMonths.Pure : Prop := ∀ (l0 : List Int), l0.length ≤ maxLen → l0.length * 1 ≤ 140737488351232 → (∀ x ∈ l0, (Lit.int .u8 x).wf = true) → ∃ k, laws_FnMonths.f k l0 = some true
theorem laws_FnMonths.walk (P : laws_FnMonths.Pure) (a0 : Option Addr) (len0 cap0 : Nat) (z0 : List Int) (w : World) (w0 : (a0 = none ∧ len0 = 0 ∧ cap0 = 0 ∧ z0 = []) ∨ ∃ x, a0 = some x ∧ len0 ≤ cap0 ∧ cap0 ≤ maxLen ∧ z0.length = cap0 ∧ (∀ i, i < z0.length → w.cell? (x.add i) = some (.int .u8 (z0.getD i 0))) ∧ ∀ n ∈ z0, (Lit.int .u8 n).wf = true) (y0 : len0 * 1 ≤ 140737488351232) (hT : Aside0 (TabAt w)) :
    Calls Tryd.prog 3 #[.slice a0 len0 cap0] w fun e w' => e = .returned (.bool true) ∧ Below w.heap.size w w' := by
  obtain ⟨l0, rfl, hr0, hm0, hw0, hc0⟩ := ReadsInt.ofRowC w0
  obtain ⟨k, h⟩ := P l0 hm0 y0 hw0
  refine (laws_FnMonths.calls k _ _ l0 true w (Kd.C_of_reads (d := (0 : Int)) (h1 := fun _ => rfl) hr0) hc0 h hT).mono ?_
  rintro e w' ⟨rfl, hd⟩
  exact ⟨rfl, hd⟩

end Go.Proofs.YtndjeclnadpifaaDoor.PFnMonths
