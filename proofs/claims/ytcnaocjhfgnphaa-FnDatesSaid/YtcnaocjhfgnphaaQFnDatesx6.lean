-- The machine's side of the law FnDates: functions and their walks, made by q.py out of the kit's own print.
import Derived.Test.YtcnaocjhfgnphaaQFnDatesx0
import Derived.Test.YtcnaocjhfgnphaaQFnDatesx1
import Derived.Test.YtcnaocjhfgnphaaQFnDatesx2
import Derived.Test.YtcnaocjhfgnphaaQFnDatesx3
import Derived.Test.YtcnaocjhfgnphaaQFnDatesx4
import Derived.Test.YtcnaocjhfgnphaaQFnDatesx5
namespace Go.Proofs.Ytcnaocjhfgnphaa.PFnDates
open Go.RowKit Go.Proofs.YtcnaocjhfgnphaaW.PrintWords Go.Proofs.YtcnaocjhfgnphaaW.PrintLast Go.Proofs.YtcnaocjhfgnphaaW.PrintMore
attribute [local go_sem] max2_int min2_int max_two min_two max_three min_three max_four min_four   -- for this text's walks alone
set_option linter.unusedVariables false
set_option linter.unusedSimpArgs false

attribute [local go_sem high] eqA37
/-! ### laws_FnDates: function 7 -/
mutual
def laws_FnDates.j0 : Nat → Int → Int → Int → Int → Int → Int → Bool → Int → Int → Int → Int → Int → Int → Option (Bool)
  | 0, _, _, _, _, _, _, _, _, _, _, _, _, _ => none
  | k + 1, x4, x5, x8, x10, x13, x17, x119, x249000, x249001, x249002, x259000, x259001, x259002 => if x119 = true then (some false) else (if x10 = 0 then ((impl_DayNumber.f k x259000 x259001 x259002).bind fun bt273 => (if bt273.2 = 0 then (if bt273.1 = x8 then (laws_FnDates.j1 k x4 x5 x13 x17 x249000 x249001 x249002) else (some false)) else (some false))) else (laws_FnDates.j1 k x4 x5 x13 x17 x249000 x249001 x249002))
def laws_FnDates.j1 : Nat → Int → Int → Int → Int → Int → Int → Int → Option (Bool)
  | 0, _, _, _, _, _, _, _ => none
  | k + 1, x4, x5, x13, x17, x249000, x249001, x249002 => if x5 = 0 then ((impl_DateOf.f k x4).bind fun bt275 => ((impl_DateOf.f k (wrap64 (x4 + 1))).bind fun bt280 => (if bt275.2.2.2 = 0 then (if (!(bt275.1 == x249000) || (!(bt275.2.1 == x249001) || (!(bt275.2.2.1 == x249002)))) = true then (laws_FnDates.j2 k x13 bt280.2.2.2 true bt280.1 bt280.2.1 bt280.2.2.1) else (if x17 < 1 then (laws_FnDates.j2 k x13 bt280.2.2.2 true bt280.1 bt280.2.1 bt280.2.2.1) else (laws_FnDates.j2 k x13 bt280.2.2.2 (decide (x17 > 366)) bt280.1 bt280.2.1 bt280.2.2.1))) else (laws_FnDates.j2 k x13 bt280.2.2.2 true bt280.1 bt280.2.1 bt280.2.2.1)))) else (some true)
def laws_FnDates.j2 : Nat → Int → Int → Bool → Int → Int → Int → Option (Bool)
  | 0, _, _, _, _, _, _ => none
  | k + 1, x13, x26, x161, x285000, x285001, x285002 => if x161 = true then (some false) else (if x26 = 0 then ((impl_WeekdayOf.f k x285000 x285001 x285002).bind fun bt285 => (if bt285.2 = 0 then (some (bt285.1 == (Int.tmod (wrap64 (x13 + 1)) 7))) else (some false))) else (some (x26 == 4)))
end
def laws_FnDates.f (k : Nat) (l0 : List Int) : Option (Bool) := (laws_big.f l0).bind fun t244 => (if t244 = true then (some true) else ((spec_DrawDayNumber.f k l0).bind fun bt245 => ((impl_DayNumber.f k bt245.1 bt245.2.1 bt245.2.2).bind fun bt249 => ((spec_DayNumber.f k bt245.1 bt245.2.1 bt245.2.2).bind fun bt251 => ((spec_DrawDateOf.f k l0).bind fun t253 => ((impl_DateOf.f k t253).bind fun bt254 => ((spec_DateOf.f k t253).bind fun bt259 => ((impl_WeekdayOf.f k bt245.1 bt245.2.1 bt245.2.2).bind fun bt264 => ((spec_WeekdayOf.f k bt245.1 bt245.2.1 bt245.2.2).bind fun bt266 => ((impl_DayOfYear.f k bt245.1 bt245.2.1 bt245.2.2).bind fun bt268 => ((spec_DayOfYear.f k bt245.1 bt245.2.1 bt245.2.2).bind fun bt270 => (if bt249.2 = bt251.2 then (if bt249.1 = bt251.1 then (if bt254.2.2.2 = bt259.2.2.2 then (if (!(bt254.1 == bt259.1) || (!(bt254.2.1 == bt259.2.1) || (!(bt254.2.2.1 == bt259.2.2.1)))) = true then (laws_FnDates.j0 k bt249.1 bt249.2 t253 bt254.2.2.2 bt264.1 bt268.1 true bt245.1 bt245.2.1 bt245.2.2 bt254.1 bt254.2.1 bt254.2.2.1) else (if bt264.2 = bt266.2 then (if bt264.1 = bt266.1 then (if bt268.2 = bt270.2 then (if bt268.1 = bt270.1 then ((impl_IsDate.f k bt245.1 bt245.2.1 bt245.2.2).bind fun t272 => (laws_FnDates.j0 k bt249.1 bt249.2 t253 bt254.2.2.2 bt264.1 bt268.1 (t272 != (bt251.2 == 0)) bt245.1 bt245.2.1 bt245.2.2 bt254.1 bt254.2.1 bt254.2.2.1)) else (laws_FnDates.j0 k bt249.1 bt249.2 t253 bt254.2.2.2 bt264.1 bt268.1 true bt245.1 bt245.2.1 bt245.2.2 bt254.1 bt254.2.1 bt254.2.2.1)) else (laws_FnDates.j0 k bt249.1 bt249.2 t253 bt254.2.2.2 bt264.1 bt268.1 true bt245.1 bt245.2.1 bt245.2.2 bt254.1 bt254.2.1 bt254.2.2.1)) else (laws_FnDates.j0 k bt249.1 bt249.2 t253 bt254.2.2.2 bt264.1 bt268.1 true bt245.1 bt245.2.1 bt245.2.2 bt254.1 bt254.2.1 bt254.2.2.1)) else (laws_FnDates.j0 k bt249.1 bt249.2 t253 bt254.2.2.2 bt264.1 bt268.1 true bt245.1 bt245.2.1 bt245.2.2 bt254.1 bt254.2.1 bt254.2.2.1))) else (laws_FnDates.j0 k bt249.1 bt249.2 t253 bt254.2.2.2 bt264.1 bt268.1 true bt245.1 bt245.2.1 bt245.2.2 bt254.1 bt254.2.1 bt254.2.2.1)) else (laws_FnDates.j0 k bt249.1 bt249.2 t253 bt254.2.2.2 bt264.1 bt268.1 true bt245.1 bt245.2.1 bt245.2.2 bt254.1 bt254.2.1 bt254.2.2.1)) else (laws_FnDates.j0 k bt249.1 bt249.2 t253 bt254.2.2.2 bt264.1 bt268.1 true bt245.1 bt245.2.1 bt245.2.2 bt254.1 bt254.2.1 bt254.2.2.1)))))))))))))
theorem laws_FnDates.mono_l : ∀ k, (∀ y0 y1 y2 y3 y4 y5 y6 y7 y8 y9 y10 y11 y12, LeO (laws_FnDates.j0 k y0 y1 y2 y3 y4 y5 y6 y7 y8 y9 y10 y11 y12) (laws_FnDates.j0 (k + 1) y0 y1 y2 y3 y4 y5 y6 y7 y8 y9 y10 y11 y12)) ∧ (∀ y0 y1 y2 y3 y4 y5 y6, LeO (laws_FnDates.j1 k y0 y1 y2 y3 y4 y5 y6) (laws_FnDates.j1 (k + 1) y0 y1 y2 y3 y4 y5 y6)) ∧ (∀ y0 y1 y2 y3 y4 y5, LeO (laws_FnDates.j2 k y0 y1 y2 y3 y4 y5) (laws_FnDates.j2 (k + 1) y0 y1 y2 y3 y4 y5))
  | 0 => ⟨fun _ _ _ _ _ _ _ _ _ _ _ _ _ r h => by simp [laws_FnDates.j0] at h, fun _ _ _ _ _ _ _ r h => by simp [laws_FnDates.j1] at h, fun _ _ _ _ _ _ r h => by simp [laws_FnDates.j2] at h⟩
  | k + 1 => by
    obtain ⟨ih0, ih1, ih2⟩ := laws_FnDates.mono_l k
    refine ⟨?_, ?_, ?_⟩
    · intro y0 y1 y2 y3 y4 y5 y6 y7 y8 y9 y10 y11 y12
      unfold laws_FnDates.j0
      repeat' first
      | (with_reducible exact ih0 _ _ _ _ _ _ _ _ _ _ _ _ _)
      | (with_reducible exact ih1 _ _ _ _ _ _ _)
      | (with_reducible exact ih2 _ _ _ _ _ _)
      | (with_reducible exact impl_DateOf.mono _ _)
      | (with_reducible exact impl_DayNumber.mono _ _ _ _)
      | (with_reducible exact impl_DayOfYear.mono _ _ _ _)
      | (with_reducible exact impl_IsDate.mono _ _ _ _)
      | (with_reducible exact impl_WeekdayOf.mono _ _ _ _)
      | (with_reducible exact spec_DateOf.mono _ _)
      | (with_reducible exact spec_DayNumber.mono _ _ _ _)
      | (with_reducible exact spec_DayOfYear.mono _ _ _ _)
      | (with_reducible exact spec_DrawDateOf.mono _ _)
      | (with_reducible exact spec_DrawDayNumber.mono _ _)
      | (with_reducible exact spec_WeekdayOf.mono _ _ _ _)
      | (with_reducible exact LeO.refl _)
      | (with_reducible exact LeO.none _)
      | (with_reducible refine LeO.ite ?_ ?_)
      | (with_reducible refine LeO.bind ?_ (fun _ => ?_))
      | exact ih0 _ _ _ _ _ _ _ _ _ _ _ _ _
      | exact ih1 _ _ _ _ _ _ _
      | exact ih2 _ _ _ _ _ _
      | exact impl_DateOf.mono _ _
      | exact impl_DayNumber.mono _ _ _ _
      | exact impl_DayOfYear.mono _ _ _ _
      | exact impl_IsDate.mono _ _ _ _
      | exact impl_WeekdayOf.mono _ _ _ _
      | exact spec_DateOf.mono _ _
      | exact spec_DayNumber.mono _ _ _ _
      | exact spec_DayOfYear.mono _ _ _ _
      | exact spec_DrawDateOf.mono _ _
      | exact spec_DrawDayNumber.mono _ _
      | exact spec_WeekdayOf.mono _ _ _ _
      | exact LeO.none _
      | refine LeO.ite ?_ ?_
      | refine LeO.bind ?_ (fun _ => ?_)
    · intro y0 y1 y2 y3 y4 y5 y6
      unfold laws_FnDates.j1
      repeat' first
      | (with_reducible exact ih0 _ _ _ _ _ _ _ _ _ _ _ _ _)
      | (with_reducible exact ih1 _ _ _ _ _ _ _)
      | (with_reducible exact ih2 _ _ _ _ _ _)
      | (with_reducible exact impl_DateOf.mono _ _)
      | (with_reducible exact impl_DayNumber.mono _ _ _ _)
      | (with_reducible exact impl_DayOfYear.mono _ _ _ _)
      | (with_reducible exact impl_IsDate.mono _ _ _ _)
      | (with_reducible exact impl_WeekdayOf.mono _ _ _ _)
      | (with_reducible exact spec_DateOf.mono _ _)
      | (with_reducible exact spec_DayNumber.mono _ _ _ _)
      | (with_reducible exact spec_DayOfYear.mono _ _ _ _)
      | (with_reducible exact spec_DrawDateOf.mono _ _)
      | (with_reducible exact spec_DrawDayNumber.mono _ _)
      | (with_reducible exact spec_WeekdayOf.mono _ _ _ _)
      | (with_reducible exact LeO.refl _)
      | (with_reducible exact LeO.none _)
      | (with_reducible refine LeO.ite ?_ ?_)
      | (with_reducible refine LeO.bind ?_ (fun _ => ?_))
      | exact ih0 _ _ _ _ _ _ _ _ _ _ _ _ _
      | exact ih1 _ _ _ _ _ _ _
      | exact ih2 _ _ _ _ _ _
      | exact impl_DateOf.mono _ _
      | exact impl_DayNumber.mono _ _ _ _
      | exact impl_DayOfYear.mono _ _ _ _
      | exact impl_IsDate.mono _ _ _ _
      | exact impl_WeekdayOf.mono _ _ _ _
      | exact spec_DateOf.mono _ _
      | exact spec_DayNumber.mono _ _ _ _
      | exact spec_DayOfYear.mono _ _ _ _
      | exact spec_DrawDateOf.mono _ _
      | exact spec_DrawDayNumber.mono _ _
      | exact spec_WeekdayOf.mono _ _ _ _
      | exact LeO.none _
      | refine LeO.ite ?_ ?_
      | refine LeO.bind ?_ (fun _ => ?_)
    · intro y0 y1 y2 y3 y4 y5
      unfold laws_FnDates.j2
      repeat' first
      | (with_reducible exact ih0 _ _ _ _ _ _ _ _ _ _ _ _ _)
      | (with_reducible exact ih1 _ _ _ _ _ _ _)
      | (with_reducible exact ih2 _ _ _ _ _ _)
      | (with_reducible exact impl_DateOf.mono _ _)
      | (with_reducible exact impl_DayNumber.mono _ _ _ _)
      | (with_reducible exact impl_DayOfYear.mono _ _ _ _)
      | (with_reducible exact impl_IsDate.mono _ _ _ _)
      | (with_reducible exact impl_WeekdayOf.mono _ _ _ _)
      | (with_reducible exact spec_DateOf.mono _ _)
      | (with_reducible exact spec_DayNumber.mono _ _ _ _)
      | (with_reducible exact spec_DayOfYear.mono _ _ _ _)
      | (with_reducible exact spec_DrawDateOf.mono _ _)
      | (with_reducible exact spec_DrawDayNumber.mono _ _)
      | (with_reducible exact spec_WeekdayOf.mono _ _ _ _)
      | (with_reducible exact LeO.refl _)
      | (with_reducible exact LeO.none _)
      | (with_reducible refine LeO.ite ?_ ?_)
      | (with_reducible refine LeO.bind ?_ (fun _ => ?_))
      | exact ih0 _ _ _ _ _ _ _ _ _ _ _ _ _
      | exact ih1 _ _ _ _ _ _ _
      | exact ih2 _ _ _ _ _ _
      | exact impl_DateOf.mono _ _
      | exact impl_DayNumber.mono _ _ _ _
      | exact impl_DayOfYear.mono _ _ _ _
      | exact impl_IsDate.mono _ _ _ _
      | exact impl_WeekdayOf.mono _ _ _ _
      | exact spec_DateOf.mono _ _
      | exact spec_DayNumber.mono _ _ _ _
      | exact spec_DayOfYear.mono _ _ _ _
      | exact spec_DrawDateOf.mono _ _
      | exact spec_DrawDayNumber.mono _ _
      | exact spec_WeekdayOf.mono _ _ _ _
      | exact LeO.none _
      | refine LeO.ite ?_ ?_
      | refine LeO.bind ?_ (fun _ => ?_)
theorem laws_FnDates.mono : ∀ a0 k, LeO (laws_FnDates.f k a0) (laws_FnDates.f (k + 1) a0) := by
  intro a0 k
  obtain ⟨ih0, ih1, ih2⟩ := laws_FnDates.mono_l k
  unfold laws_FnDates.f
  repeat' first
      | (with_reducible exact ih0 _ _ _ _ _ _ _ _ _ _ _ _ _)
      | (with_reducible exact ih1 _ _ _ _ _ _ _)
      | (with_reducible exact ih2 _ _ _ _ _ _)
      | (with_reducible exact impl_DateOf.mono _ _)
      | (with_reducible exact impl_DayNumber.mono _ _ _ _)
      | (with_reducible exact impl_DayOfYear.mono _ _ _ _)
      | (with_reducible exact impl_IsDate.mono _ _ _ _)
      | (with_reducible exact impl_WeekdayOf.mono _ _ _ _)
      | (with_reducible exact spec_DateOf.mono _ _)
      | (with_reducible exact spec_DayNumber.mono _ _ _ _)
      | (with_reducible exact spec_DayOfYear.mono _ _ _ _)
      | (with_reducible exact spec_DrawDateOf.mono _ _)
      | (with_reducible exact spec_DrawDayNumber.mono _ _)
      | (with_reducible exact spec_WeekdayOf.mono _ _ _ _)
      | (with_reducible exact LeO.refl _)
      | (with_reducible exact LeO.none _)
      | (with_reducible refine LeO.ite ?_ ?_)
      | (with_reducible refine LeO.bind ?_ (fun _ => ?_))
      | exact ih0 _ _ _ _ _ _ _ _ _ _ _ _ _
      | exact ih1 _ _ _ _ _ _ _
      | exact ih2 _ _ _ _ _ _
      | exact impl_DateOf.mono _ _
      | exact impl_DayNumber.mono _ _ _ _
      | exact impl_DayOfYear.mono _ _ _ _
      | exact impl_IsDate.mono _ _ _ _
      | exact impl_WeekdayOf.mono _ _ _ _
      | exact spec_DateOf.mono _ _
      | exact spec_DayNumber.mono _ _ _ _
      | exact spec_DayOfYear.mono _ _ _ _
      | exact spec_DrawDateOf.mono _ _
      | exact spec_DrawDayNumber.mono _ _
      | exact spec_WeekdayOf.mono _ _ _ _
      | exact LeO.none _
      | refine LeO.ite ?_ ?_
      | refine LeO.bind ?_ (fun _ => ?_)
set_option maxHeartbeats 8000000 in
set_option maxRecDepth 100000 in
theorem laws_FnDates.calls (k : Nat) (A0 : Option Addr) (c0 : Nat) (l0 : List Int) (r : Bool) (w : World) (hr0 : Kd.C (Kd.int .u8) w A0 l0.length l0) (hc0 : l0.length ≤ c0) (h : laws_FnDates.f k l0 = some r) :
    Calls Try.prog 7 #[.slice A0 l0.length c0] w fun e w' => e = .returned (.bool r) ∧ Below w.heap.size w w' := by
  have hu37 := Try.underlying37
  have HR0 := Aside0.mk hr0
  have HC0 := Aside0.mk hc0
  clear hr0 hc0
  have HB := Aside0.mk (Below.refl w.heap.size w)
  have H : ((laws_big.f l0).bind fun t244 => (if t244 = true then (some true) else ((spec_DrawDayNumber.f k l0).bind fun bt245 => ((impl_DayNumber.f k bt245.1 bt245.2.1 bt245.2.2).bind fun bt249 => ((spec_DayNumber.f k bt245.1 bt245.2.1 bt245.2.2).bind fun bt251 => ((spec_DrawDateOf.f k l0).bind fun t253 => ((impl_DateOf.f k t253).bind fun bt254 => ((spec_DateOf.f k t253).bind fun bt259 => ((impl_WeekdayOf.f k bt245.1 bt245.2.1 bt245.2.2).bind fun bt264 => ((spec_WeekdayOf.f k bt245.1 bt245.2.1 bt245.2.2).bind fun bt266 => ((impl_DayOfYear.f k bt245.1 bt245.2.1 bt245.2.2).bind fun bt268 => ((spec_DayOfYear.f k bt245.1 bt245.2.1 bt245.2.2).bind fun bt270 => (if bt249.2 = bt251.2 then (if bt249.1 = bt251.1 then (if bt254.2.2.2 = bt259.2.2.2 then (if (!(bt254.1 == bt259.1) || (!(bt254.2.1 == bt259.2.1) || (!(bt254.2.2.1 == bt259.2.2.1)))) = true then (laws_FnDates.j0 k bt249.1 bt249.2 t253 bt254.2.2.2 bt264.1 bt268.1 true bt245.1 bt245.2.1 bt245.2.2 bt254.1 bt254.2.1 bt254.2.2.1) else (if bt264.2 = bt266.2 then (if bt264.1 = bt266.1 then (if bt268.2 = bt270.2 then (if bt268.1 = bt270.1 then ((impl_IsDate.f k bt245.1 bt245.2.1 bt245.2.2).bind fun t272 => (laws_FnDates.j0 k bt249.1 bt249.2 t253 bt254.2.2.2 bt264.1 bt268.1 (t272 != (bt251.2 == 0)) bt245.1 bt245.2.1 bt245.2.2 bt254.1 bt254.2.1 bt254.2.2.1)) else (laws_FnDates.j0 k bt249.1 bt249.2 t253 bt254.2.2.2 bt264.1 bt268.1 true bt245.1 bt245.2.1 bt245.2.2 bt254.1 bt254.2.1 bt254.2.2.1)) else (laws_FnDates.j0 k bt249.1 bt249.2 t253 bt254.2.2.2 bt264.1 bt268.1 true bt245.1 bt245.2.1 bt245.2.2 bt254.1 bt254.2.1 bt254.2.2.1)) else (laws_FnDates.j0 k bt249.1 bt249.2 t253 bt254.2.2.2 bt264.1 bt268.1 true bt245.1 bt245.2.1 bt245.2.2 bt254.1 bt254.2.1 bt254.2.2.1)) else (laws_FnDates.j0 k bt249.1 bt249.2 t253 bt254.2.2.2 bt264.1 bt268.1 true bt245.1 bt245.2.1 bt245.2.2 bt254.1 bt254.2.1 bt254.2.2.1))) else (laws_FnDates.j0 k bt249.1 bt249.2 t253 bt254.2.2.2 bt264.1 bt268.1 true bt245.1 bt245.2.1 bt245.2.2 bt254.1 bt254.2.1 bt254.2.2.1)) else (laws_FnDates.j0 k bt249.1 bt249.2 t253 bt254.2.2.2 bt264.1 bt268.1 true bt245.1 bt245.2.1 bt245.2.2 bt254.1 bt254.2.1 bt254.2.2.1)) else (laws_FnDates.j0 k bt249.1 bt249.2 t253 bt254.2.2.2 bt264.1 bt268.1 true bt245.1 bt245.2.1 bt245.2.2 bt254.1 bt254.2.1 bt254.2.2.1)))))))))))))) = some r := h
  clear h
  replace H := Option.bind_eq_some_iff.mp H
  obtain ⟨t244, A20, H⟩ := H
  replace H : (if t244 = true then (some true) else ((spec_DrawDayNumber.f k l0).bind fun bt245 => ((impl_DayNumber.f k bt245.1 bt245.2.1 bt245.2.2).bind fun bt249 => ((spec_DayNumber.f k bt245.1 bt245.2.1 bt245.2.2).bind fun bt251 => ((spec_DrawDateOf.f k l0).bind fun t253 => ((impl_DateOf.f k t253).bind fun bt254 => ((spec_DateOf.f k t253).bind fun bt259 => ((impl_WeekdayOf.f k bt245.1 bt245.2.1 bt245.2.2).bind fun bt264 => ((spec_WeekdayOf.f k bt245.1 bt245.2.1 bt245.2.2).bind fun bt266 => ((impl_DayOfYear.f k bt245.1 bt245.2.1 bt245.2.2).bind fun bt268 => ((spec_DayOfYear.f k bt245.1 bt245.2.1 bt245.2.2).bind fun bt270 => (if bt249.2 = bt251.2 then (if bt249.1 = bt251.1 then (if bt254.2.2.2 = bt259.2.2.2 then (if (!(bt254.1 == bt259.1) || (!(bt254.2.1 == bt259.2.1) || (!(bt254.2.2.1 == bt259.2.2.1)))) = true then (laws_FnDates.j0 k bt249.1 bt249.2 t253 bt254.2.2.2 bt264.1 bt268.1 true bt245.1 bt245.2.1 bt245.2.2 bt254.1 bt254.2.1 bt254.2.2.1) else (if bt264.2 = bt266.2 then (if bt264.1 = bt266.1 then (if bt268.2 = bt270.2 then (if bt268.1 = bt270.1 then ((impl_IsDate.f k bt245.1 bt245.2.1 bt245.2.2).bind fun t272 => (laws_FnDates.j0 k bt249.1 bt249.2 t253 bt254.2.2.2 bt264.1 bt268.1 (t272 != (bt251.2 == 0)) bt245.1 bt245.2.1 bt245.2.2 bt254.1 bt254.2.1 bt254.2.2.1)) else (laws_FnDates.j0 k bt249.1 bt249.2 t253 bt254.2.2.2 bt264.1 bt268.1 true bt245.1 bt245.2.1 bt245.2.2 bt254.1 bt254.2.1 bt254.2.2.1)) else (laws_FnDates.j0 k bt249.1 bt249.2 t253 bt254.2.2.2 bt264.1 bt268.1 true bt245.1 bt245.2.1 bt245.2.2 bt254.1 bt254.2.1 bt254.2.2.1)) else (laws_FnDates.j0 k bt249.1 bt249.2 t253 bt254.2.2.2 bt264.1 bt268.1 true bt245.1 bt245.2.1 bt245.2.2 bt254.1 bt254.2.1 bt254.2.2.1)) else (laws_FnDates.j0 k bt249.1 bt249.2 t253 bt254.2.2.2 bt264.1 bt268.1 true bt245.1 bt245.2.1 bt245.2.2 bt254.1 bt254.2.1 bt254.2.2.1))) else (laws_FnDates.j0 k bt249.1 bt249.2 t253 bt254.2.2.2 bt264.1 bt268.1 true bt245.1 bt245.2.1 bt245.2.2 bt254.1 bt254.2.1 bt254.2.2.1)) else (laws_FnDates.j0 k bt249.1 bt249.2 t253 bt254.2.2.2 bt264.1 bt268.1 true bt245.1 bt245.2.1 bt245.2.2 bt254.1 bt254.2.1 bt254.2.2.1)) else (laws_FnDates.j0 k bt249.1 bt249.2 t253 bt254.2.2.2 bt264.1 bt268.1 true bt245.1 bt245.2.1 bt245.2.2 bt254.1 bt254.2.1 bt254.2.2.1))))))))))))) = some r := H
  have A2 := Aside0.mk A20
  clear A20
  by_cases c3 : t244 = true
  · subst c3
    have H1 : (some true) = some r := by rw [if_pos rfl] at H; exact H
    clear H
    have H := H1
    clear H1
    obtain rfl := Option.some.inj H
    go_enter Try.func7, Try.ntmps7
    go_wp2_with (first | ((with_reducible refine gate_callee (f := 9) rfl ?_); refine goesL_ (some 30) rfl rfl Try.func9 (by kernel_rfl) rfl #[.slice A0 l0.length c0] rfl (by (try simp only [List.map_toArray, List.map_cons, List.map_nil]); first | done | rfl | (simp only [List.length_drop, List.length_take]; rfl)) ?_; (with_reducible refine (laws_big.calls _ _ l0 true _ ?side1 ?side2 A2.out).mono ?_); (case side1 => repeat (first | exact HR0.out | (with_reducible refine Kd.C_alloc ?_ _) | (with_reducible refine Kd.C_drewN ?_ _) | (with_reducible refine Kd.C_drew ?_))); (case side2 => exact HC0.out); rintro e w' ⟨rfl, ⟨nd, rfl⟩⟩; refine ⟨_, rfl, ?_⟩))
    go_ret
    exact ⟨by first | rfl | (simp [errW_none, errW_some] <;> rfl) | (simp [*, errW_none, errW_some] <;> rfl), by repeat (first | (with_reducible first | exact HB.out | apply below_alloc | apply pw_below_drewN | apply below_drew1) | exact HB.out)⟩
  · replace c3 := Bool.eq_false_iff.mpr c3
    subst c3
    have H1 : ((spec_DrawDayNumber.f k l0).bind fun bt245 => ((impl_DayNumber.f k bt245.1 bt245.2.1 bt245.2.2).bind fun bt249 => ((spec_DayNumber.f k bt245.1 bt245.2.1 bt245.2.2).bind fun bt251 => ((spec_DrawDateOf.f k l0).bind fun t253 => ((impl_DateOf.f k t253).bind fun bt254 => ((spec_DateOf.f k t253).bind fun bt259 => ((impl_WeekdayOf.f k bt245.1 bt245.2.1 bt245.2.2).bind fun bt264 => ((spec_WeekdayOf.f k bt245.1 bt245.2.1 bt245.2.2).bind fun bt266 => ((impl_DayOfYear.f k bt245.1 bt245.2.1 bt245.2.2).bind fun bt268 => ((spec_DayOfYear.f k bt245.1 bt245.2.1 bt245.2.2).bind fun bt270 => (if bt249.2 = bt251.2 then (if bt249.1 = bt251.1 then (if bt254.2.2.2 = bt259.2.2.2 then (if (!(bt254.1 == bt259.1) || (!(bt254.2.1 == bt259.2.1) || (!(bt254.2.2.1 == bt259.2.2.1)))) = true then (laws_FnDates.j0 k bt249.1 bt249.2 t253 bt254.2.2.2 bt264.1 bt268.1 true bt245.1 bt245.2.1 bt245.2.2 bt254.1 bt254.2.1 bt254.2.2.1) else (if bt264.2 = bt266.2 then (if bt264.1 = bt266.1 then (if bt268.2 = bt270.2 then (if bt268.1 = bt270.1 then ((impl_IsDate.f k bt245.1 bt245.2.1 bt245.2.2).bind fun t272 => (laws_FnDates.j0 k bt249.1 bt249.2 t253 bt254.2.2.2 bt264.1 bt268.1 (t272 != (bt251.2 == 0)) bt245.1 bt245.2.1 bt245.2.2 bt254.1 bt254.2.1 bt254.2.2.1)) else (laws_FnDates.j0 k bt249.1 bt249.2 t253 bt254.2.2.2 bt264.1 bt268.1 true bt245.1 bt245.2.1 bt245.2.2 bt254.1 bt254.2.1 bt254.2.2.1)) else (laws_FnDates.j0 k bt249.1 bt249.2 t253 bt254.2.2.2 bt264.1 bt268.1 true bt245.1 bt245.2.1 bt245.2.2 bt254.1 bt254.2.1 bt254.2.2.1)) else (laws_FnDates.j0 k bt249.1 bt249.2 t253 bt254.2.2.2 bt264.1 bt268.1 true bt245.1 bt245.2.1 bt245.2.2 bt254.1 bt254.2.1 bt254.2.2.1)) else (laws_FnDates.j0 k bt249.1 bt249.2 t253 bt254.2.2.2 bt264.1 bt268.1 true bt245.1 bt245.2.1 bt245.2.2 bt254.1 bt254.2.1 bt254.2.2.1))) else (laws_FnDates.j0 k bt249.1 bt249.2 t253 bt254.2.2.2 bt264.1 bt268.1 true bt245.1 bt245.2.1 bt245.2.2 bt254.1 bt254.2.1 bt254.2.2.1)) else (laws_FnDates.j0 k bt249.1 bt249.2 t253 bt254.2.2.2 bt264.1 bt268.1 true bt245.1 bt245.2.1 bt245.2.2 bt254.1 bt254.2.1 bt254.2.2.1)) else (laws_FnDates.j0 k bt249.1 bt249.2 t253 bt254.2.2.2 bt264.1 bt268.1 true bt245.1 bt245.2.1 bt245.2.2 bt254.1 bt254.2.1 bt254.2.2.1)))))))))))) = some r := by rw [if_neg (show ¬ (false = true) by decide)] at H; exact H
    clear H
    have H := H1
    clear H1
    replace H := Option.bind_eq_some_iff.mp H
    obtain ⟨⟨t245, t246, t247⟩, A40, H⟩ := H
    replace H : ((impl_DayNumber.f k t245 t246 t247).bind fun bt249 => ((spec_DayNumber.f k t245 t246 t247).bind fun bt251 => ((spec_DrawDateOf.f k l0).bind fun t253 => ((impl_DateOf.f k t253).bind fun bt254 => ((spec_DateOf.f k t253).bind fun bt259 => ((impl_WeekdayOf.f k t245 t246 t247).bind fun bt264 => ((spec_WeekdayOf.f k t245 t246 t247).bind fun bt266 => ((impl_DayOfYear.f k t245 t246 t247).bind fun bt268 => ((spec_DayOfYear.f k t245 t246 t247).bind fun bt270 => (if bt249.2 = bt251.2 then (if bt249.1 = bt251.1 then (if bt254.2.2.2 = bt259.2.2.2 then (if (!(bt254.1 == bt259.1) || (!(bt254.2.1 == bt259.2.1) || (!(bt254.2.2.1 == bt259.2.2.1)))) = true then (laws_FnDates.j0 k bt249.1 bt249.2 t253 bt254.2.2.2 bt264.1 bt268.1 true t245 t246 t247 bt254.1 bt254.2.1 bt254.2.2.1) else (if bt264.2 = bt266.2 then (if bt264.1 = bt266.1 then (if bt268.2 = bt270.2 then (if bt268.1 = bt270.1 then ((impl_IsDate.f k t245 t246 t247).bind fun t272 => (laws_FnDates.j0 k bt249.1 bt249.2 t253 bt254.2.2.2 bt264.1 bt268.1 (t272 != (bt251.2 == 0)) t245 t246 t247 bt254.1 bt254.2.1 bt254.2.2.1)) else (laws_FnDates.j0 k bt249.1 bt249.2 t253 bt254.2.2.2 bt264.1 bt268.1 true t245 t246 t247 bt254.1 bt254.2.1 bt254.2.2.1)) else (laws_FnDates.j0 k bt249.1 bt249.2 t253 bt254.2.2.2 bt264.1 bt268.1 true t245 t246 t247 bt254.1 bt254.2.1 bt254.2.2.1)) else (laws_FnDates.j0 k bt249.1 bt249.2 t253 bt254.2.2.2 bt264.1 bt268.1 true t245 t246 t247 bt254.1 bt254.2.1 bt254.2.2.1)) else (laws_FnDates.j0 k bt249.1 bt249.2 t253 bt254.2.2.2 bt264.1 bt268.1 true t245 t246 t247 bt254.1 bt254.2.1 bt254.2.2.1))) else (laws_FnDates.j0 k bt249.1 bt249.2 t253 bt254.2.2.2 bt264.1 bt268.1 true t245 t246 t247 bt254.1 bt254.2.1 bt254.2.2.1)) else (laws_FnDates.j0 k bt249.1 bt249.2 t253 bt254.2.2.2 bt264.1 bt268.1 true t245 t246 t247 bt254.1 bt254.2.1 bt254.2.2.1)) else (laws_FnDates.j0 k bt249.1 bt249.2 t253 bt254.2.2.2 bt264.1 bt268.1 true t245 t246 t247 bt254.1 bt254.2.1 bt254.2.2.1))))))))))) = some r := H
    have A4 := Aside0.mk A40
    clear A40
    replace H := Option.bind_eq_some_iff.mp H
    obtain ⟨⟨t249, t250⟩, A50, H⟩ := H
    replace H : ((spec_DayNumber.f k t245 t246 t247).bind fun bt251 => ((spec_DrawDateOf.f k l0).bind fun t253 => ((impl_DateOf.f k t253).bind fun bt254 => ((spec_DateOf.f k t253).bind fun bt259 => ((impl_WeekdayOf.f k t245 t246 t247).bind fun bt264 => ((spec_WeekdayOf.f k t245 t246 t247).bind fun bt266 => ((impl_DayOfYear.f k t245 t246 t247).bind fun bt268 => ((spec_DayOfYear.f k t245 t246 t247).bind fun bt270 => (if t250 = bt251.2 then (if t249 = bt251.1 then (if bt254.2.2.2 = bt259.2.2.2 then (if (!(bt254.1 == bt259.1) || (!(bt254.2.1 == bt259.2.1) || (!(bt254.2.2.1 == bt259.2.2.1)))) = true then (laws_FnDates.j0 k t249 t250 t253 bt254.2.2.2 bt264.1 bt268.1 true t245 t246 t247 bt254.1 bt254.2.1 bt254.2.2.1) else (if bt264.2 = bt266.2 then (if bt264.1 = bt266.1 then (if bt268.2 = bt270.2 then (if bt268.1 = bt270.1 then ((impl_IsDate.f k t245 t246 t247).bind fun t272 => (laws_FnDates.j0 k t249 t250 t253 bt254.2.2.2 bt264.1 bt268.1 (t272 != (bt251.2 == 0)) t245 t246 t247 bt254.1 bt254.2.1 bt254.2.2.1)) else (laws_FnDates.j0 k t249 t250 t253 bt254.2.2.2 bt264.1 bt268.1 true t245 t246 t247 bt254.1 bt254.2.1 bt254.2.2.1)) else (laws_FnDates.j0 k t249 t250 t253 bt254.2.2.2 bt264.1 bt268.1 true t245 t246 t247 bt254.1 bt254.2.1 bt254.2.2.1)) else (laws_FnDates.j0 k t249 t250 t253 bt254.2.2.2 bt264.1 bt268.1 true t245 t246 t247 bt254.1 bt254.2.1 bt254.2.2.1)) else (laws_FnDates.j0 k t249 t250 t253 bt254.2.2.2 bt264.1 bt268.1 true t245 t246 t247 bt254.1 bt254.2.1 bt254.2.2.1))) else (laws_FnDates.j0 k t249 t250 t253 bt254.2.2.2 bt264.1 bt268.1 true t245 t246 t247 bt254.1 bt254.2.1 bt254.2.2.1)) else (laws_FnDates.j0 k t249 t250 t253 bt254.2.2.2 bt264.1 bt268.1 true t245 t246 t247 bt254.1 bt254.2.1 bt254.2.2.1)) else (laws_FnDates.j0 k t249 t250 t253 bt254.2.2.2 bt264.1 bt268.1 true t245 t246 t247 bt254.1 bt254.2.1 bt254.2.2.1)))))))))) = some r := H
    have A5 := Aside0.mk A50
    clear A50
    replace H := Option.bind_eq_some_iff.mp H
    obtain ⟨⟨t251, t252⟩, A60, H⟩ := H
    replace H : ((spec_DrawDateOf.f k l0).bind fun t253 => ((impl_DateOf.f k t253).bind fun bt254 => ((spec_DateOf.f k t253).bind fun bt259 => ((impl_WeekdayOf.f k t245 t246 t247).bind fun bt264 => ((spec_WeekdayOf.f k t245 t246 t247).bind fun bt266 => ((impl_DayOfYear.f k t245 t246 t247).bind fun bt268 => ((spec_DayOfYear.f k t245 t246 t247).bind fun bt270 => (if t250 = t252 then (if t249 = t251 then (if bt254.2.2.2 = bt259.2.2.2 then (if (!(bt254.1 == bt259.1) || (!(bt254.2.1 == bt259.2.1) || (!(bt254.2.2.1 == bt259.2.2.1)))) = true then (laws_FnDates.j0 k t249 t250 t253 bt254.2.2.2 bt264.1 bt268.1 true t245 t246 t247 bt254.1 bt254.2.1 bt254.2.2.1) else (if bt264.2 = bt266.2 then (if bt264.1 = bt266.1 then (if bt268.2 = bt270.2 then (if bt268.1 = bt270.1 then ((impl_IsDate.f k t245 t246 t247).bind fun t272 => (laws_FnDates.j0 k t249 t250 t253 bt254.2.2.2 bt264.1 bt268.1 (t272 != (t252 == 0)) t245 t246 t247 bt254.1 bt254.2.1 bt254.2.2.1)) else (laws_FnDates.j0 k t249 t250 t253 bt254.2.2.2 bt264.1 bt268.1 true t245 t246 t247 bt254.1 bt254.2.1 bt254.2.2.1)) else (laws_FnDates.j0 k t249 t250 t253 bt254.2.2.2 bt264.1 bt268.1 true t245 t246 t247 bt254.1 bt254.2.1 bt254.2.2.1)) else (laws_FnDates.j0 k t249 t250 t253 bt254.2.2.2 bt264.1 bt268.1 true t245 t246 t247 bt254.1 bt254.2.1 bt254.2.2.1)) else (laws_FnDates.j0 k t249 t250 t253 bt254.2.2.2 bt264.1 bt268.1 true t245 t246 t247 bt254.1 bt254.2.1 bt254.2.2.1))) else (laws_FnDates.j0 k t249 t250 t253 bt254.2.2.2 bt264.1 bt268.1 true t245 t246 t247 bt254.1 bt254.2.1 bt254.2.2.1)) else (laws_FnDates.j0 k t249 t250 t253 bt254.2.2.2 bt264.1 bt268.1 true t245 t246 t247 bt254.1 bt254.2.1 bt254.2.2.1)) else (laws_FnDates.j0 k t249 t250 t253 bt254.2.2.2 bt264.1 bt268.1 true t245 t246 t247 bt254.1 bt254.2.1 bt254.2.2.1))))))))) = some r := H
    have A6 := Aside0.mk A60
    clear A60
    replace H := Option.bind_eq_some_iff.mp H
    obtain ⟨t253, A70, H⟩ := H
    replace H : ((impl_DateOf.f k t253).bind fun bt254 => ((spec_DateOf.f k t253).bind fun bt259 => ((impl_WeekdayOf.f k t245 t246 t247).bind fun bt264 => ((spec_WeekdayOf.f k t245 t246 t247).bind fun bt266 => ((impl_DayOfYear.f k t245 t246 t247).bind fun bt268 => ((spec_DayOfYear.f k t245 t246 t247).bind fun bt270 => (if t250 = t252 then (if t249 = t251 then (if bt254.2.2.2 = bt259.2.2.2 then (if (!(bt254.1 == bt259.1) || (!(bt254.2.1 == bt259.2.1) || (!(bt254.2.2.1 == bt259.2.2.1)))) = true then (laws_FnDates.j0 k t249 t250 t253 bt254.2.2.2 bt264.1 bt268.1 true t245 t246 t247 bt254.1 bt254.2.1 bt254.2.2.1) else (if bt264.2 = bt266.2 then (if bt264.1 = bt266.1 then (if bt268.2 = bt270.2 then (if bt268.1 = bt270.1 then ((impl_IsDate.f k t245 t246 t247).bind fun t272 => (laws_FnDates.j0 k t249 t250 t253 bt254.2.2.2 bt264.1 bt268.1 (t272 != (t252 == 0)) t245 t246 t247 bt254.1 bt254.2.1 bt254.2.2.1)) else (laws_FnDates.j0 k t249 t250 t253 bt254.2.2.2 bt264.1 bt268.1 true t245 t246 t247 bt254.1 bt254.2.1 bt254.2.2.1)) else (laws_FnDates.j0 k t249 t250 t253 bt254.2.2.2 bt264.1 bt268.1 true t245 t246 t247 bt254.1 bt254.2.1 bt254.2.2.1)) else (laws_FnDates.j0 k t249 t250 t253 bt254.2.2.2 bt264.1 bt268.1 true t245 t246 t247 bt254.1 bt254.2.1 bt254.2.2.1)) else (laws_FnDates.j0 k t249 t250 t253 bt254.2.2.2 bt264.1 bt268.1 true t245 t246 t247 bt254.1 bt254.2.1 bt254.2.2.1))) else (laws_FnDates.j0 k t249 t250 t253 bt254.2.2.2 bt264.1 bt268.1 true t245 t246 t247 bt254.1 bt254.2.1 bt254.2.2.1)) else (laws_FnDates.j0 k t249 t250 t253 bt254.2.2.2 bt264.1 bt268.1 true t245 t246 t247 bt254.1 bt254.2.1 bt254.2.2.1)) else (laws_FnDates.j0 k t249 t250 t253 bt254.2.2.2 bt264.1 bt268.1 true t245 t246 t247 bt254.1 bt254.2.1 bt254.2.2.1)))))))) = some r := H
    have A7 := Aside0.mk A70
    clear A70
    replace H := Option.bind_eq_some_iff.mp H
    obtain ⟨⟨t254, t255, t256, t257⟩, A80, H⟩ := H
    replace H : ((spec_DateOf.f k t253).bind fun bt259 => ((impl_WeekdayOf.f k t245 t246 t247).bind fun bt264 => ((spec_WeekdayOf.f k t245 t246 t247).bind fun bt266 => ((impl_DayOfYear.f k t245 t246 t247).bind fun bt268 => ((spec_DayOfYear.f k t245 t246 t247).bind fun bt270 => (if t250 = t252 then (if t249 = t251 then (if t257 = bt259.2.2.2 then (if (!(t254 == bt259.1) || (!(t255 == bt259.2.1) || (!(t256 == bt259.2.2.1)))) = true then (laws_FnDates.j0 k t249 t250 t253 t257 bt264.1 bt268.1 true t245 t246 t247 t254 t255 t256) else (if bt264.2 = bt266.2 then (if bt264.1 = bt266.1 then (if bt268.2 = bt270.2 then (if bt268.1 = bt270.1 then ((impl_IsDate.f k t245 t246 t247).bind fun t272 => (laws_FnDates.j0 k t249 t250 t253 t257 bt264.1 bt268.1 (t272 != (t252 == 0)) t245 t246 t247 t254 t255 t256)) else (laws_FnDates.j0 k t249 t250 t253 t257 bt264.1 bt268.1 true t245 t246 t247 t254 t255 t256)) else (laws_FnDates.j0 k t249 t250 t253 t257 bt264.1 bt268.1 true t245 t246 t247 t254 t255 t256)) else (laws_FnDates.j0 k t249 t250 t253 t257 bt264.1 bt268.1 true t245 t246 t247 t254 t255 t256)) else (laws_FnDates.j0 k t249 t250 t253 t257 bt264.1 bt268.1 true t245 t246 t247 t254 t255 t256))) else (laws_FnDates.j0 k t249 t250 t253 t257 bt264.1 bt268.1 true t245 t246 t247 t254 t255 t256)) else (laws_FnDates.j0 k t249 t250 t253 t257 bt264.1 bt268.1 true t245 t246 t247 t254 t255 t256)) else (laws_FnDates.j0 k t249 t250 t253 t257 bt264.1 bt268.1 true t245 t246 t247 t254 t255 t256))))))) = some r := H
    have A8 := Aside0.mk A80
    clear A80
    replace H := Option.bind_eq_some_iff.mp H
    obtain ⟨⟨t259, t260, t261, t262⟩, A90, H⟩ := H
    replace H : ((impl_WeekdayOf.f k t245 t246 t247).bind fun bt264 => ((spec_WeekdayOf.f k t245 t246 t247).bind fun bt266 => ((impl_DayOfYear.f k t245 t246 t247).bind fun bt268 => ((spec_DayOfYear.f k t245 t246 t247).bind fun bt270 => (if t250 = t252 then (if t249 = t251 then (if t257 = t262 then (if (!(t254 == t259) || (!(t255 == t260) || (!(t256 == t261)))) = true then (laws_FnDates.j0 k t249 t250 t253 t257 bt264.1 bt268.1 true t245 t246 t247 t254 t255 t256) else (if bt264.2 = bt266.2 then (if bt264.1 = bt266.1 then (if bt268.2 = bt270.2 then (if bt268.1 = bt270.1 then ((impl_IsDate.f k t245 t246 t247).bind fun t272 => (laws_FnDates.j0 k t249 t250 t253 t257 bt264.1 bt268.1 (t272 != (t252 == 0)) t245 t246 t247 t254 t255 t256)) else (laws_FnDates.j0 k t249 t250 t253 t257 bt264.1 bt268.1 true t245 t246 t247 t254 t255 t256)) else (laws_FnDates.j0 k t249 t250 t253 t257 bt264.1 bt268.1 true t245 t246 t247 t254 t255 t256)) else (laws_FnDates.j0 k t249 t250 t253 t257 bt264.1 bt268.1 true t245 t246 t247 t254 t255 t256)) else (laws_FnDates.j0 k t249 t250 t253 t257 bt264.1 bt268.1 true t245 t246 t247 t254 t255 t256))) else (laws_FnDates.j0 k t249 t250 t253 t257 bt264.1 bt268.1 true t245 t246 t247 t254 t255 t256)) else (laws_FnDates.j0 k t249 t250 t253 t257 bt264.1 bt268.1 true t245 t246 t247 t254 t255 t256)) else (laws_FnDates.j0 k t249 t250 t253 t257 bt264.1 bt268.1 true t245 t246 t247 t254 t255 t256)))))) = some r := H
    have A9 := Aside0.mk A90
    clear A90
    replace H := Option.bind_eq_some_iff.mp H
    obtain ⟨⟨t264, t265⟩, A100, H⟩ := H
    replace H : ((spec_WeekdayOf.f k t245 t246 t247).bind fun bt266 => ((impl_DayOfYear.f k t245 t246 t247).bind fun bt268 => ((spec_DayOfYear.f k t245 t246 t247).bind fun bt270 => (if t250 = t252 then (if t249 = t251 then (if t257 = t262 then (if (!(t254 == t259) || (!(t255 == t260) || (!(t256 == t261)))) = true then (laws_FnDates.j0 k t249 t250 t253 t257 t264 bt268.1 true t245 t246 t247 t254 t255 t256) else (if t265 = bt266.2 then (if t264 = bt266.1 then (if bt268.2 = bt270.2 then (if bt268.1 = bt270.1 then ((impl_IsDate.f k t245 t246 t247).bind fun t272 => (laws_FnDates.j0 k t249 t250 t253 t257 t264 bt268.1 (t272 != (t252 == 0)) t245 t246 t247 t254 t255 t256)) else (laws_FnDates.j0 k t249 t250 t253 t257 t264 bt268.1 true t245 t246 t247 t254 t255 t256)) else (laws_FnDates.j0 k t249 t250 t253 t257 t264 bt268.1 true t245 t246 t247 t254 t255 t256)) else (laws_FnDates.j0 k t249 t250 t253 t257 t264 bt268.1 true t245 t246 t247 t254 t255 t256)) else (laws_FnDates.j0 k t249 t250 t253 t257 t264 bt268.1 true t245 t246 t247 t254 t255 t256))) else (laws_FnDates.j0 k t249 t250 t253 t257 t264 bt268.1 true t245 t246 t247 t254 t255 t256)) else (laws_FnDates.j0 k t249 t250 t253 t257 t264 bt268.1 true t245 t246 t247 t254 t255 t256)) else (laws_FnDates.j0 k t249 t250 t253 t257 t264 bt268.1 true t245 t246 t247 t254 t255 t256))))) = some r := H
    have A10 := Aside0.mk A100
    clear A100
    replace H := Option.bind_eq_some_iff.mp H
    obtain ⟨⟨t266, t267⟩, A110, H⟩ := H
    replace H : ((impl_DayOfYear.f k t245 t246 t247).bind fun bt268 => ((spec_DayOfYear.f k t245 t246 t247).bind fun bt270 => (if t250 = t252 then (if t249 = t251 then (if t257 = t262 then (if (!(t254 == t259) || (!(t255 == t260) || (!(t256 == t261)))) = true then (laws_FnDates.j0 k t249 t250 t253 t257 t264 bt268.1 true t245 t246 t247 t254 t255 t256) else (if t265 = t267 then (if t264 = t266 then (if bt268.2 = bt270.2 then (if bt268.1 = bt270.1 then ((impl_IsDate.f k t245 t246 t247).bind fun t272 => (laws_FnDates.j0 k t249 t250 t253 t257 t264 bt268.1 (t272 != (t252 == 0)) t245 t246 t247 t254 t255 t256)) else (laws_FnDates.j0 k t249 t250 t253 t257 t264 bt268.1 true t245 t246 t247 t254 t255 t256)) else (laws_FnDates.j0 k t249 t250 t253 t257 t264 bt268.1 true t245 t246 t247 t254 t255 t256)) else (laws_FnDates.j0 k t249 t250 t253 t257 t264 bt268.1 true t245 t246 t247 t254 t255 t256)) else (laws_FnDates.j0 k t249 t250 t253 t257 t264 bt268.1 true t245 t246 t247 t254 t255 t256))) else (laws_FnDates.j0 k t249 t250 t253 t257 t264 bt268.1 true t245 t246 t247 t254 t255 t256)) else (laws_FnDates.j0 k t249 t250 t253 t257 t264 bt268.1 true t245 t246 t247 t254 t255 t256)) else (laws_FnDates.j0 k t249 t250 t253 t257 t264 bt268.1 true t245 t246 t247 t254 t255 t256)))) = some r := H
    have A11 := Aside0.mk A110
    clear A110
    replace H := Option.bind_eq_some_iff.mp H
    obtain ⟨⟨t268, t269⟩, A120, H⟩ := H
    replace H : ((spec_DayOfYear.f k t245 t246 t247).bind fun bt270 => (if t250 = t252 then (if t249 = t251 then (if t257 = t262 then (if (!(t254 == t259) || (!(t255 == t260) || (!(t256 == t261)))) = true then (laws_FnDates.j0 k t249 t250 t253 t257 t264 t268 true t245 t246 t247 t254 t255 t256) else (if t265 = t267 then (if t264 = t266 then (if t269 = bt270.2 then (if t268 = bt270.1 then ((impl_IsDate.f k t245 t246 t247).bind fun t272 => (laws_FnDates.j0 k t249 t250 t253 t257 t264 t268 (t272 != (t252 == 0)) t245 t246 t247 t254 t255 t256)) else (laws_FnDates.j0 k t249 t250 t253 t257 t264 t268 true t245 t246 t247 t254 t255 t256)) else (laws_FnDates.j0 k t249 t250 t253 t257 t264 t268 true t245 t246 t247 t254 t255 t256)) else (laws_FnDates.j0 k t249 t250 t253 t257 t264 t268 true t245 t246 t247 t254 t255 t256)) else (laws_FnDates.j0 k t249 t250 t253 t257 t264 t268 true t245 t246 t247 t254 t255 t256))) else (laws_FnDates.j0 k t249 t250 t253 t257 t264 t268 true t245 t246 t247 t254 t255 t256)) else (laws_FnDates.j0 k t249 t250 t253 t257 t264 t268 true t245 t246 t247 t254 t255 t256)) else (laws_FnDates.j0 k t249 t250 t253 t257 t264 t268 true t245 t246 t247 t254 t255 t256))) = some r := H
    have A12 := Aside0.mk A120
    clear A120
    replace H := Option.bind_eq_some_iff.mp H
    obtain ⟨⟨t270, t271⟩, A130, H⟩ := H
    replace H : (if t250 = t252 then (if t249 = t251 then (if t257 = t262 then (if (!(t254 == t259) || (!(t255 == t260) || (!(t256 == t261)))) = true then (laws_FnDates.j0 k t249 t250 t253 t257 t264 t268 true t245 t246 t247 t254 t255 t256) else (if t265 = t267 then (if t264 = t266 then (if t269 = t271 then (if t268 = t270 then ((impl_IsDate.f k t245 t246 t247).bind fun t272 => (laws_FnDates.j0 k t249 t250 t253 t257 t264 t268 (t272 != (t252 == 0)) t245 t246 t247 t254 t255 t256)) else (laws_FnDates.j0 k t249 t250 t253 t257 t264 t268 true t245 t246 t247 t254 t255 t256)) else (laws_FnDates.j0 k t249 t250 t253 t257 t264 t268 true t245 t246 t247 t254 t255 t256)) else (laws_FnDates.j0 k t249 t250 t253 t257 t264 t268 true t245 t246 t247 t254 t255 t256)) else (laws_FnDates.j0 k t249 t250 t253 t257 t264 t268 true t245 t246 t247 t254 t255 t256))) else (laws_FnDates.j0 k t249 t250 t253 t257 t264 t268 true t245 t246 t247 t254 t255 t256)) else (laws_FnDates.j0 k t249 t250 t253 t257 t264 t268 true t245 t246 t247 t254 t255 t256)) else (laws_FnDates.j0 k t249 t250 t253 t257 t264 t268 true t245 t246 t247 t254 t255 t256)) = some r := H
    have A13 := Aside0.mk A130
    clear A130
    have HC14 := Aside0.mk H
    clear H
    go_enter Try.func7, Try.ntmps7
    go_upto_region 13 with (first | ((with_reducible refine gate_callee (f := 9) rfl ?_); refine goesL_ (some 30) rfl rfl Try.func9 (by kernel_rfl) rfl #[.slice A0 l0.length c0] rfl (by (try simp only [List.map_toArray, List.map_cons, List.map_nil]); first | done | rfl | (simp only [List.length_drop, List.length_take]; rfl)) ?_; (with_reducible refine (laws_big.calls _ _ l0 false _ ?side1 ?side2 A2.out).mono ?_); (case side1 => repeat (first | exact HR0.out | (with_reducible refine Kd.C_alloc ?_ _) | (with_reducible refine Kd.C_drewN ?_ _) | (with_reducible refine Kd.C_drew ?_))); (case side2 => exact HC0.out); rintro e w' ⟨rfl, ⟨nd, rfl⟩⟩; refine ⟨_, rfl, ?_⟩) | ((with_reducible refine gate_callee (f := 40) rfl ?_); refine goesL_ (some 32) rfl rfl Try.func40 (by kernel_rfl) rfl #[.slice A0 l0.length c0] rfl (by (try simp only [List.map_toArray, List.map_cons, List.map_nil]); first | done | rfl | (simp only [List.length_drop, List.length_take]; rfl)) ?_; (with_reducible refine (spec_DrawDayNumber.calls k _ _ l0 t245 t246 t247 _ ?side1 ?side2 A4.out).mono ?_); (case side1 => repeat (first | exact HR0.out | (with_reducible refine Kd.C_alloc ?_ _) | (with_reducible refine Kd.C_drewN ?_ _) | (with_reducible refine Kd.C_drew ?_))); (case side2 => exact HC0.out); rintro e w15 ⟨rfl, hb⟩; refine ⟨_, rfl, ?_⟩; have n0_ := Aside0.mk (below_step (by repeat (first | (with_reducible first | exact HB.out | apply below_alloc | apply pw_below_drewN | apply below_drew1) | exact HB.out)) hb); clear HB; have HB := n0_; clear n0_; (try clear hb); (try clear hb2); (try clear hk); (try clear hi)) | ((with_reducible refine gate_dst (N := 3) rfl ?_); refine box_event ?hg (N := 3) ?hd (cs := #[.int .i64 0, .int .i64 0, .int .i64 0]) (t := 37) ?hr ?_; (case hd => rfl); (case hg => rfl); (case hr => first | (go_simp; done) | (go_simp; rfl)); intro gb248 hg w16 hbox hb; have n0_ := Aside0.mk (below_step (by repeat (first | (with_reducible first | exact HB.out | apply below_alloc | apply pw_below_drewN | apply below_drew1) | exact HB.out)) hb); have n1_ := Aside0.mk (hbox); have n2_ := Aside0.mk ((by rw [hg]; exact (below_size (by repeat (first | (with_reducible first | exact HB.out | apply below_alloc | apply pw_below_drewN | apply below_drew1) | exact HB.out))) : w.heap.size ≤ gb248)); have n3_ := Aside0.mk ((by rw [hg]; exact (below_size (by repeat (first | (with_reducible first | exact HB.out | apply below_alloc | apply pw_below_drewN | apply below_drew1) | exact HB.out))) : w.heap.size ≤ gb248)); clear HB; have HB := n0_; have BK248 := n1_; have GW248 := n2_; have GE248 := n3_; clear n0_ n1_ n2_ n3_; clear hb hbox hg; have hcz17_0 : w16.cell? ⟨gb248, 0, none⟩ = some (.int .i64 0) := (blk_cell BK248.out 0).trans rfl; have hcz17_1 : w16.cell? ⟨gb248, 1, none⟩ = some (.int .i64 0) := (blk_cell BK248.out 1).trans rfl; have hcz17_2 : w16.cell? ⟨gb248, 2, none⟩ = some (.int .i64 0) := (blk_cell BK248.out 2).trans rfl; have hfz17_0 := blk_frozen BK248.out 0; have hfz17_1 := blk_frozen BK248.out 1; have hfz17_2 := blk_frozen BK248.out 2) | ((with_reducible refine gate_callee (f := 41) rfl ?_); refine goesL_ (some 35) rfl rfl Try.func41 (by kernel_rfl) rfl #[.agg #[.int .i64 t245, .int .i64 t246, .int .i64 t247]] rfl (by (try simp only [List.map_toArray, List.map_cons, List.map_nil]); first | done | rfl | (simp only [List.length_drop, List.length_take]; rfl)) ?_; (with_reducible refine (impl_DayNumber.calls k t245 t246 t247 t249 t250 _ A5.out).mono ?_); rintro e w18 ⟨rfl, hb⟩; refine ⟨_, rfl, ?_⟩; have n0_ := Aside0.mk (blk_below (g := gb248) (o := .cells #[.int .i64 t245, .int .i64 t246, .int .i64 t247] 37 (0, 0)) (by (with_reducible repeat (first | refine blk_drewN ?_ _ | refine blk_drew ?_ | refine blk_alloc ?_ _)); refine blk_put (cs := #[.int .i64 t245, .int .i64 t246, .int .i64 0]) ?_ 2 _ rfl; (with_reducible repeat (first | refine blk_drewN ?_ _ | refine blk_drew ?_ | refine blk_alloc ?_ _)); refine blk_put (cs := #[.int .i64 t245, .int .i64 0, .int .i64 0]) ?_ 1 _ rfl; (with_reducible repeat (first | refine blk_drewN ?_ _ | refine blk_drew ?_ | refine blk_alloc ?_ _)); refine blk_put (cs := #[.int .i64 0, .int .i64 0, .int .i64 0]) ?_ 0 _ rfl; (with_reducible repeat (first | refine blk_drewN ?_ _ | refine blk_drew ?_ | refine blk_alloc ?_ _)); exact BK248.out) hb); have n1_ := Aside0.mk (below_step (by repeat (first | (with_reducible first | exact HB.out | apply below_alloc | apply pw_below_drewN | apply below_drew1 | refine below_set ?_ GE248.out) | exact HB.out)) hb); clear BK248; clear HB; have BK248 := n0_; have HB := n1_; clear n0_ n1_; (try clear hb); (try clear hb2); (try clear hk); (try clear hi); have hcz19_0 : w18.cell? ⟨gb248, 0, none⟩ = some (.int .i64 t245) := (blk_cell BK248.out 0).trans rfl; have hcz19_1 : w18.cell? ⟨gb248, 1, none⟩ = some (.int .i64 t246) := (blk_cell BK248.out 1).trans rfl; have hcz19_2 : w18.cell? ⟨gb248, 2, none⟩ = some (.int .i64 t247) := (blk_cell BK248.out 2).trans rfl; have hfz19_0 := blk_frozen BK248.out 0; have hfz19_1 := blk_frozen BK248.out 1; have hfz19_2 := blk_frozen BK248.out 2) | ((with_reducible refine gate_callee (f := 42) rfl ?_); refine goesL_ (some 40) rfl rfl Try.func42 (by kernel_rfl) rfl #[.agg #[.int .i64 t245, .int .i64 t246, .int .i64 t247]] rfl (by (try simp only [List.map_toArray, List.map_cons, List.map_nil]); first | done | rfl | (simp only [List.length_drop, List.length_take]; rfl)) ?_; (with_reducible refine (spec_DayNumber.calls k t245 t246 t247 t251 t252 _ A6.out).mono ?_); rintro e w20 ⟨rfl, hb⟩; refine ⟨_, rfl, ?_⟩; have n0_ := Aside0.mk (blk_below (g := gb248) (o := .cells #[.int .i64 t245, .int .i64 t246, .int .i64 t247] 37 (0, 0)) (by (with_reducible repeat (first | refine blk_drewN ?_ _ | refine blk_drew ?_ | refine blk_alloc ?_ _)); exact BK248.out) hb); have n1_ := Aside0.mk (below_step (by repeat (first | (with_reducible first | exact HB.out | apply below_alloc | apply pw_below_drewN | apply below_drew1 | refine below_set ?_ GE248.out) | exact HB.out)) hb); clear BK248; clear HB; have BK248 := n0_; have HB := n1_; clear n0_ n1_; (try clear hb); (try clear hb2); (try clear hk); (try clear hi)) | ((with_reducible refine gate_callee (f := 43) rfl ?_); refine goesL_ (some 44) rfl rfl Try.func43 (by kernel_rfl) rfl #[.slice A0 l0.length c0] rfl (by (try simp only [List.map_toArray, List.map_cons, List.map_nil]); first | done | rfl | (simp only [List.length_drop, List.length_take]; rfl)) ?_; (with_reducible refine (spec_DrawDateOf.calls k _ _ l0 t253 _ ?side1 ?side2 A7.out).mono ?_); (case side1 => repeat (first | exact (Kd.C_below HR0.out HB.out) | (with_reducible refine Kd.C_alloc ?_ _) | (with_reducible refine Kd.C_drewN ?_ _) | (with_reducible refine Kd.C_drew ?_))); (case side2 => exact HC0.out); rintro e w21 ⟨rfl, hb⟩; refine ⟨_, rfl, ?_⟩; have n0_ := Aside0.mk (blk_below (g := gb248) (o := .cells #[.int .i64 t245, .int .i64 t246, .int .i64 t247] 37 (0, 0)) (by (with_reducible repeat (first | refine blk_drewN ?_ _ | refine blk_drew ?_ | refine blk_alloc ?_ _)); exact BK248.out) hb); have n1_ := Aside0.mk (below_step (by repeat (first | (with_reducible first | exact HB.out | apply below_alloc | apply pw_below_drewN | apply below_drew1 | refine below_set ?_ GE248.out) | exact HB.out)) hb); clear BK248; clear HB; have BK248 := n0_; have HB := n1_; clear n0_ n1_; (try clear hb); (try clear hb2); (try clear hk); (try clear hi)) | ((with_reducible refine gate_callee (f := 44) rfl ?_); refine goesL_ (some 47) rfl rfl Try.func44 (by kernel_rfl) rfl #[.int .i64 t253] rfl (by (try simp only [List.map_toArray, List.map_cons, List.map_nil]); first | done | rfl | (simp only [List.length_drop, List.length_take]; rfl)) ?_; (with_reducible refine (impl_DateOf.calls k t253 t254 t255 t256 t257 _ A8.out).mono ?_); rintro e w22 ⟨rfl, hb⟩; refine ⟨_, rfl, ?_⟩; have n0_ := Aside0.mk (blk_below (g := gb248) (o := .cells #[.int .i64 t245, .int .i64 t246, .int .i64 t247] 37 (0, 0)) (by (with_reducible repeat (first | refine blk_drewN ?_ _ | refine blk_drew ?_ | refine blk_alloc ?_ _)); exact BK248.out) hb); have n1_ := Aside0.mk (below_step (by repeat (first | (with_reducible first | exact HB.out | apply below_alloc | apply pw_below_drewN | apply below_drew1 | refine below_set ?_ GE248.out) | exact HB.out)) hb); clear BK248; clear HB; have BK248 := n0_; have HB := n1_; clear n0_ n1_; (try clear hb); (try clear hb2); (try clear hk); (try clear hi)) | ((with_reducible refine gate_dst (N := 9) rfl ?_); refine box_event ?hg (N := 9) ?hd (cs := #[.int .i64 0, .int .i64 0, .int .i64 0]) (t := 37) ?hr ?_; (case hd => rfl); (case hg => rfl); (case hr => first | (go_simp; done) | (go_simp; rfl)); intro gb258 hg w23 hbox hb; have n0_ := Aside0.mk (blk_below (g := gb248) (o := .cells #[.int .i64 t245, .int .i64 t246, .int .i64 t247] 37 (0, 0)) (by (with_reducible repeat (first | refine blk_drewN ?_ _ | refine blk_drew ?_ | refine blk_alloc ?_ _)); exact BK248.out) hb); have n1_ := Aside0.mk (below_step (by repeat (first | (with_reducible first | exact HB.out | apply below_alloc | apply pw_below_drewN | apply below_drew1 | refine below_set ?_ GE248.out) | exact HB.out)) hb); have n2_ := Aside0.mk (hbox); have n3_ := Aside0.mk ((by rw [hg]; exact (below_size (by repeat (first | (with_reducible first | exact HB.out | apply below_alloc | apply pw_below_drewN | apply below_drew1 | refine below_set ?_ GE248.out) | exact HB.out))) : w.heap.size ≤ gb258)); have n4_ := Aside0.mk ((by rw [hg]; exact (below_size (by repeat (first | (with_reducible first | exact HB.out | apply below_alloc | apply pw_below_drewN | apply below_drew1 | refine below_set ?_ GE248.out) | exact HB.out))) : w.heap.size ≤ gb258)); have n5_ := Aside0.mk ((by rw [hg]; exact Nat.ne_of_lt (blk_lt (g := gb248) (o := .cells #[.int .i64 t245, .int .i64 t246, .int .i64 t247] 37 (0, 0)) (by (with_reducible repeat (first | refine blk_drewN ?_ _ | refine blk_drew ?_ | refine blk_alloc ?_ _)); exact BK248.out)) : gb248 ≠ gb258)); have n6_ := Aside0.mk ((by rw [hg]; exact Nat.ne_of_gt (blk_lt (g := gb248) (o := .cells #[.int .i64 t245, .int .i64 t246, .int .i64 t247] 37 (0, 0)) (by (with_reducible repeat (first | refine blk_drewN ?_ _ | refine blk_drew ?_ | refine blk_alloc ?_ _)); exact BK248.out)) : gb258 ≠ gb248)); clear BK248; clear HB; have BK248 := n0_; have HB := n1_; have BK258 := n2_; have GW258 := n3_; have GE258 := n4_; have NB248_258 := n5_; have NB258_248 := n6_; clear n0_ n1_ n2_ n3_ n4_ n5_ n6_; clear hb hbox hg; have hnb24 := NB258_248.out; have hnc24 := NB248_258.out; have hcz25_0 : w23.cell? ⟨gb258, 0, none⟩ = some (.int .i64 0) := (blk_cell BK258.out 0).trans rfl; have hcz25_1 : w23.cell? ⟨gb258, 1, none⟩ = some (.int .i64 0) := (blk_cell BK258.out 1).trans rfl; have hcz25_2 : w23.cell? ⟨gb258, 2, none⟩ = some (.int .i64 0) := (blk_cell BK258.out 2).trans rfl; have hfz25_0 := blk_frozen BK258.out 0; have hfz25_1 := blk_frozen BK258.out 1; have hfz25_2 := blk_frozen BK258.out 2) | ((with_reducible refine gate_callee (f := 45) rfl ?_); refine goesL_ (some 52) rfl rfl Try.func45 (by kernel_rfl) rfl #[.int .i64 t253] rfl (by (try simp only [List.map_toArray, List.map_cons, List.map_nil]); first | done | rfl | (simp only [List.length_drop, List.length_take]; rfl)) ?_; (with_reducible refine (spec_DateOf.calls k t253 t259 t260 t261 t262 _ A9.out).mono ?_); rintro e w26 ⟨rfl, hb⟩; refine ⟨_, rfl, ?_⟩; have n0_ := Aside0.mk (blk_below (g := gb248) (o := .cells #[.int .i64 t245, .int .i64 t246, .int .i64 t247] 37 (0, 0)) (by (with_reducible repeat (first | refine blk_drewN ?_ _ | refine blk_drew ?_ | refine blk_alloc ?_ _)); refine blk_far ?_ NB248_258.out _; (with_reducible repeat (first | refine blk_drewN ?_ _ | refine blk_drew ?_ | refine blk_alloc ?_ _)); refine blk_far ?_ NB248_258.out _; (with_reducible repeat (first | refine blk_drewN ?_ _ | refine blk_drew ?_ | refine blk_alloc ?_ _)); refine blk_far ?_ NB248_258.out _; (with_reducible repeat (first | refine blk_drewN ?_ _ | refine blk_drew ?_ | refine blk_alloc ?_ _)); exact BK248.out) hb); have n1_ := Aside0.mk (blk_below (g := gb258) (o := .cells #[.int .i64 t254, .int .i64 t255, .int .i64 t256] 37 (0, 0)) (by (with_reducible repeat (first | refine blk_drewN ?_ _ | refine blk_drew ?_ | refine blk_alloc ?_ _)); refine blk_put (cs := #[.int .i64 t254, .int .i64 t255, .int .i64 0]) ?_ 2 _ rfl; (with_reducible repeat (first | refine blk_drewN ?_ _ | refine blk_drew ?_ | refine blk_alloc ?_ _)); refine blk_put (cs := #[.int .i64 t254, .int .i64 0, .int .i64 0]) ?_ 1 _ rfl; (with_reducible repeat (first | refine blk_drewN ?_ _ | refine blk_drew ?_ | refine blk_alloc ?_ _)); refine blk_put (cs := #[.int .i64 0, .int .i64 0, .int .i64 0]) ?_ 0 _ rfl; (with_reducible repeat (first | refine blk_drewN ?_ _ | refine blk_drew ?_ | refine blk_alloc ?_ _)); exact BK258.out) hb); have n2_ := Aside0.mk (below_step (by repeat (first | (with_reducible first | exact HB.out | apply below_alloc | apply pw_below_drewN | apply below_drew1 | refine below_set ?_ GE248.out | refine below_set ?_ GE258.out) | exact HB.out)) hb); clear BK248; clear BK258; clear HB; have BK248 := n0_; have BK258 := n1_; have HB := n2_; clear n0_ n1_ n2_; (try clear hb); (try clear hb2); (try clear hk); (try clear hi)) | ((with_reducible refine gate_dst (N := 11) rfl ?_); refine box_event ?hg (N := 11) ?hd (cs := #[.int .i64 0, .int .i64 0, .int .i64 0]) (t := 37) ?hr ?_; (case hd => rfl); (case hg => rfl); (case hr => first | (go_simp; done) | (go_simp; rfl)); intro gb263 hg w27 hbox hb; have n0_ := Aside0.mk (blk_below (g := gb248) (o := .cells #[.int .i64 t245, .int .i64 t246, .int .i64 t247] 37 (0, 0)) (by (with_reducible repeat (first | refine blk_drewN ?_ _ | refine blk_drew ?_ | refine blk_alloc ?_ _)); exact BK248.out) hb); have n1_ := Aside0.mk (blk_below (g := gb258) (o := .cells #[.int .i64 t254, .int .i64 t255, .int .i64 t256] 37 (0, 0)) (by (with_reducible repeat (first | refine blk_drewN ?_ _ | refine blk_drew ?_ | refine blk_alloc ?_ _)); exact BK258.out) hb); have n2_ := Aside0.mk (below_step (by repeat (first | (with_reducible first | exact HB.out | apply below_alloc | apply pw_below_drewN | apply below_drew1 | refine below_set ?_ GE248.out | refine below_set ?_ GE258.out) | exact HB.out)) hb); have n3_ := Aside0.mk (hbox); have n4_ := Aside0.mk ((by rw [hg]; exact (below_size (by repeat (first | (with_reducible first | exact HB.out | apply below_alloc | apply pw_below_drewN | apply below_drew1 | refine below_set ?_ GE248.out | refine below_set ?_ GE258.out) | exact HB.out))) : w.heap.size ≤ gb263)); have n5_ := Aside0.mk ((by rw [hg]; exact (below_size (by repeat (first | (with_reducible first | exact HB.out | apply below_alloc | apply pw_below_drewN | apply below_drew1 | refine below_set ?_ GE248.out | refine below_set ?_ GE258.out) | exact HB.out))) : w.heap.size ≤ gb263)); have n6_ := Aside0.mk ((by rw [hg]; exact Nat.ne_of_lt (blk_lt (g := gb248) (o := .cells #[.int .i64 t245, .int .i64 t246, .int .i64 t247] 37 (0, 0)) (by (with_reducible repeat (first | refine blk_drewN ?_ _ | refine blk_drew ?_ | refine blk_alloc ?_ _)); exact BK248.out)) : gb248 ≠ gb263)); have n7_ := Aside0.mk ((by rw [hg]; exact Nat.ne_of_gt (blk_lt (g := gb248) (o := .cells #[.int .i64 t245, .int .i64 t246, .int .i64 t247] 37 (0, 0)) (by (with_reducible repeat (first | refine blk_drewN ?_ _ | refine blk_drew ?_ | refine blk_alloc ?_ _)); exact BK248.out)) : gb263 ≠ gb248)); have n8_ := Aside0.mk ((by rw [hg]; exact Nat.ne_of_lt (blk_lt (g := gb258) (o := .cells #[.int .i64 t254, .int .i64 t255, .int .i64 t256] 37 (0, 0)) (by (with_reducible repeat (first | refine blk_drewN ?_ _ | refine blk_drew ?_ | refine blk_alloc ?_ _)); exact BK258.out)) : gb258 ≠ gb263)); have n9_ := Aside0.mk ((by rw [hg]; exact Nat.ne_of_gt (blk_lt (g := gb258) (o := .cells #[.int .i64 t254, .int .i64 t255, .int .i64 t256] 37 (0, 0)) (by (with_reducible repeat (first | refine blk_drewN ?_ _ | refine blk_drew ?_ | refine blk_alloc ?_ _)); exact BK258.out)) : gb263 ≠ gb258)); clear BK248; clear BK258; clear HB; have BK248 := n0_; have BK258 := n1_; have HB := n2_; have BK263 := n3_; have GW263 := n4_; have GE263 := n5_; have NB248_263 := n6_; have NB263_248 := n7_; have NB258_263 := n8_; have NB263_258 := n9_; clear n0_ n1_ n2_ n3_ n4_ n5_ n6_ n7_ n8_ n9_; clear hb hbox hg; have hnb28 := NB263_248.out; have hnc28 := NB248_263.out; have hnb29 := NB263_258.out; have hnc29 := NB258_263.out; have hcz30_0 : w27.cell? ⟨gb263, 0, none⟩ = some (.int .i64 0) := (blk_cell BK263.out 0).trans rfl; have hcz30_1 : w27.cell? ⟨gb263, 1, none⟩ = some (.int .i64 0) := (blk_cell BK263.out 1).trans rfl; have hcz30_2 : w27.cell? ⟨gb263, 2, none⟩ = some (.int .i64 0) := (blk_cell BK263.out 2).trans rfl; have hfz30_0 := blk_frozen BK263.out 0; have hfz30_1 := blk_frozen BK263.out 1; have hfz30_2 := blk_frozen BK263.out 2; have hcz31_0 : w27.cell? ⟨gb248, 0, none⟩ = some (.int .i64 t245) := (blk_cell BK248.out 0).trans rfl; have hcz31_1 : w27.cell? ⟨gb248, 1, none⟩ = some (.int .i64 t246) := (blk_cell BK248.out 1).trans rfl; have hcz31_2 : w27.cell? ⟨gb248, 2, none⟩ = some (.int .i64 t247) := (blk_cell BK248.out 2).trans rfl; have hfz31_0 := blk_frozen BK248.out 0; have hfz31_1 := blk_frozen BK248.out 1; have hfz31_2 := blk_frozen BK248.out 2) | ((with_reducible refine gate_callee (f := 46) rfl ?_); refine goesL_ (some 57) rfl rfl Try.func46 (by kernel_rfl) rfl #[.agg #[.int .i64 t245, .int .i64 t246, .int .i64 t247]] rfl (by (try simp only [List.map_toArray, List.map_cons, List.map_nil]); first | done | rfl | (simp only [List.length_drop, List.length_take]; rfl)) ?_; (with_reducible refine (impl_WeekdayOf.calls k t245 t246 t247 t264 t265 _ A10.out).mono ?_); rintro e w32 ⟨rfl, hb⟩; refine ⟨_, rfl, ?_⟩; have n0_ := Aside0.mk (blk_below (g := gb248) (o := .cells #[.int .i64 t245, .int .i64 t246, .int .i64 t247] 37 (0, 0)) (by (with_reducible repeat (first | refine blk_drewN ?_ _ | refine blk_drew ?_ | refine blk_alloc ?_ _)); refine blk_far ?_ NB248_263.out _; (with_reducible repeat (first | refine blk_drewN ?_ _ | refine blk_drew ?_ | refine blk_alloc ?_ _)); refine blk_far ?_ NB248_263.out _; (with_reducible repeat (first | refine blk_drewN ?_ _ | refine blk_drew ?_ | refine blk_alloc ?_ _)); refine blk_far ?_ NB248_263.out _; (with_reducible repeat (first | refine blk_drewN ?_ _ | refine blk_drew ?_ | refine blk_alloc ?_ _)); exact BK248.out) hb); have n1_ := Aside0.mk (blk_below (g := gb258) (o := .cells #[.int .i64 t254, .int .i64 t255, .int .i64 t256] 37 (0, 0)) (by (with_reducible repeat (first | refine blk_drewN ?_ _ | refine blk_drew ?_ | refine blk_alloc ?_ _)); refine blk_far ?_ NB258_263.out _; (with_reducible repeat (first | refine blk_drewN ?_ _ | refine blk_drew ?_ | refine blk_alloc ?_ _)); refine blk_far ?_ NB258_263.out _; (with_reducible repeat (first | refine blk_drewN ?_ _ | refine blk_drew ?_ | refine blk_alloc ?_ _)); refine blk_far ?_ NB258_263.out _; (with_reducible repeat (first | refine blk_drewN ?_ _ | refine blk_drew ?_ | refine blk_alloc ?_ _)); exact BK258.out) hb); have n2_ := Aside0.mk (blk_below (g := gb263) (o := .cells #[.int .i64 t259, .int .i64 t260, .int .i64 t261] 37 (0, 0)) (by (with_reducible repeat (first | refine blk_drewN ?_ _ | refine blk_drew ?_ | refine blk_alloc ?_ _)); refine blk_put (cs := #[.int .i64 t259, .int .i64 t260, .int .i64 0]) ?_ 2 _ rfl; (with_reducible repeat (first | refine blk_drewN ?_ _ | refine blk_drew ?_ | refine blk_alloc ?_ _)); refine blk_put (cs := #[.int .i64 t259, .int .i64 0, .int .i64 0]) ?_ 1 _ rfl; (with_reducible repeat (first | refine blk_drewN ?_ _ | refine blk_drew ?_ | refine blk_alloc ?_ _)); refine blk_put (cs := #[.int .i64 0, .int .i64 0, .int .i64 0]) ?_ 0 _ rfl; (with_reducible repeat (first | refine blk_drewN ?_ _ | refine blk_drew ?_ | refine blk_alloc ?_ _)); exact BK263.out) hb); have n3_ := Aside0.mk (below_step (by repeat (first | (with_reducible first | exact HB.out | apply below_alloc | apply pw_below_drewN | apply below_drew1 | refine below_set ?_ GE248.out | refine below_set ?_ GE258.out | refine below_set ?_ GE263.out) | exact HB.out)) hb); clear BK248; clear BK258; clear BK263; clear HB; have BK248 := n0_; have BK258 := n1_; have BK263 := n2_; have HB := n3_; clear n0_ n1_ n2_ n3_; (try clear hb); (try clear hb2); (try clear hk); (try clear hi); have hcz33_0 : w32.cell? ⟨gb248, 0, none⟩ = some (.int .i64 t245) := (blk_cell BK248.out 0).trans rfl; have hcz33_1 : w32.cell? ⟨gb248, 1, none⟩ = some (.int .i64 t246) := (blk_cell BK248.out 1).trans rfl; have hcz33_2 : w32.cell? ⟨gb248, 2, none⟩ = some (.int .i64 t247) := (blk_cell BK248.out 2).trans rfl; have hfz33_0 := blk_frozen BK248.out 0; have hfz33_1 := blk_frozen BK248.out 1; have hfz33_2 := blk_frozen BK248.out 2) | ((with_reducible refine gate_callee (f := 47) rfl ?_); refine goesL_ (some 62) rfl rfl Try.func47 (by kernel_rfl) rfl #[.agg #[.int .i64 t245, .int .i64 t246, .int .i64 t247]] rfl (by (try simp only [List.map_toArray, List.map_cons, List.map_nil]); first | done | rfl | (simp only [List.length_drop, List.length_take]; rfl)) ?_; (with_reducible refine (spec_WeekdayOf.calls k t245 t246 t247 t266 t267 _ A11.out).mono ?_); rintro e w34 ⟨rfl, hb⟩; refine ⟨_, rfl, ?_⟩; have n0_ := Aside0.mk (blk_below (g := gb248) (o := .cells #[.int .i64 t245, .int .i64 t246, .int .i64 t247] 37 (0, 0)) (by (with_reducible repeat (first | refine blk_drewN ?_ _ | refine blk_drew ?_ | refine blk_alloc ?_ _)); exact BK248.out) hb); have n1_ := Aside0.mk (blk_below (g := gb258) (o := .cells #[.int .i64 t254, .int .i64 t255, .int .i64 t256] 37 (0, 0)) (by (with_reducible repeat (first | refine blk_drewN ?_ _ | refine blk_drew ?_ | refine blk_alloc ?_ _)); exact BK258.out) hb); have n2_ := Aside0.mk (blk_below (g := gb263) (o := .cells #[.int .i64 t259, .int .i64 t260, .int .i64 t261] 37 (0, 0)) (by (with_reducible repeat (first | refine blk_drewN ?_ _ | refine blk_drew ?_ | refine blk_alloc ?_ _)); exact BK263.out) hb); have n3_ := Aside0.mk (below_step (by repeat (first | (with_reducible first | exact HB.out | apply below_alloc | apply pw_below_drewN | apply below_drew1 | refine below_set ?_ GE248.out | refine below_set ?_ GE258.out | refine below_set ?_ GE263.out) | exact HB.out)) hb); clear BK248; clear BK258; clear BK263; clear HB; have BK248 := n0_; have BK258 := n1_; have BK263 := n2_; have HB := n3_; clear n0_ n1_ n2_ n3_; (try clear hb); (try clear hb2); (try clear hk); (try clear hi); have hcz35_0 : w34.cell? ⟨gb248, 0, none⟩ = some (.int .i64 t245) := (blk_cell BK248.out 0).trans rfl; have hcz35_1 : w34.cell? ⟨gb248, 1, none⟩ = some (.int .i64 t246) := (blk_cell BK248.out 1).trans rfl; have hcz35_2 : w34.cell? ⟨gb248, 2, none⟩ = some (.int .i64 t247) := (blk_cell BK248.out 2).trans rfl; have hfz35_0 := blk_frozen BK248.out 0; have hfz35_1 := blk_frozen BK248.out 1; have hfz35_2 := blk_frozen BK248.out 2) | ((with_reducible refine gate_callee (f := 48) rfl ?_); refine goesL_ (some 67) rfl rfl Try.func48 (by kernel_rfl) rfl #[.agg #[.int .i64 t245, .int .i64 t246, .int .i64 t247]] rfl (by (try simp only [List.map_toArray, List.map_cons, List.map_nil]); first | done | rfl | (simp only [List.length_drop, List.length_take]; rfl)) ?_; (with_reducible refine (impl_DayOfYear.calls k t245 t246 t247 t268 t269 _ A12.out).mono ?_); rintro e w36 ⟨rfl, hb⟩; refine ⟨_, rfl, ?_⟩; have n0_ := Aside0.mk (blk_below (g := gb248) (o := .cells #[.int .i64 t245, .int .i64 t246, .int .i64 t247] 37 (0, 0)) (by (with_reducible repeat (first | refine blk_drewN ?_ _ | refine blk_drew ?_ | refine blk_alloc ?_ _)); exact BK248.out) hb); have n1_ := Aside0.mk (blk_below (g := gb258) (o := .cells #[.int .i64 t254, .int .i64 t255, .int .i64 t256] 37 (0, 0)) (by (with_reducible repeat (first | refine blk_drewN ?_ _ | refine blk_drew ?_ | refine blk_alloc ?_ _)); exact BK258.out) hb); have n2_ := Aside0.mk (blk_below (g := gb263) (o := .cells #[.int .i64 t259, .int .i64 t260, .int .i64 t261] 37 (0, 0)) (by (with_reducible repeat (first | refine blk_drewN ?_ _ | refine blk_drew ?_ | refine blk_alloc ?_ _)); exact BK263.out) hb); have n3_ := Aside0.mk (below_step (by repeat (first | (with_reducible first | exact HB.out | apply below_alloc | apply pw_below_drewN | apply below_drew1 | refine below_set ?_ GE248.out | refine below_set ?_ GE258.out | refine below_set ?_ GE263.out) | exact HB.out)) hb); clear BK248; clear BK258; clear BK263; clear HB; have BK248 := n0_; have BK258 := n1_; have BK263 := n2_; have HB := n3_; clear n0_ n1_ n2_ n3_; (try clear hb); (try clear hb2); (try clear hk); (try clear hi); have hcz37_0 : w36.cell? ⟨gb248, 0, none⟩ = some (.int .i64 t245) := (blk_cell BK248.out 0).trans rfl; have hcz37_1 : w36.cell? ⟨gb248, 1, none⟩ = some (.int .i64 t246) := (blk_cell BK248.out 1).trans rfl; have hcz37_2 : w36.cell? ⟨gb248, 2, none⟩ = some (.int .i64 t247) := (blk_cell BK248.out 2).trans rfl; have hfz37_0 := blk_frozen BK248.out 0; have hfz37_1 := blk_frozen BK248.out 1; have hfz37_2 := blk_frozen BK248.out 2) | ((with_reducible refine gate_callee (f := 49) rfl ?_); refine goesL_ (some 72) rfl rfl Try.func49 (by kernel_rfl) rfl #[.agg #[.int .i64 t245, .int .i64 t246, .int .i64 t247]] rfl (by (try simp only [List.map_toArray, List.map_cons, List.map_nil]); first | done | rfl | (simp only [List.length_drop, List.length_take]; rfl)) ?_; (with_reducible refine (spec_DayOfYear.calls k t245 t246 t247 t270 t271 _ A13.out).mono ?_); rintro e w38 ⟨rfl, hb⟩; refine ⟨_, rfl, ?_⟩; have n0_ := Aside0.mk (blk_below (g := gb248) (o := .cells #[.int .i64 t245, .int .i64 t246, .int .i64 t247] 37 (0, 0)) (by (with_reducible repeat (first | refine blk_drewN ?_ _ | refine blk_drew ?_ | refine blk_alloc ?_ _)); exact BK248.out) hb); have n1_ := Aside0.mk (blk_below (g := gb258) (o := .cells #[.int .i64 t254, .int .i64 t255, .int .i64 t256] 37 (0, 0)) (by (with_reducible repeat (first | refine blk_drewN ?_ _ | refine blk_drew ?_ | refine blk_alloc ?_ _)); exact BK258.out) hb); have n2_ := Aside0.mk (blk_below (g := gb263) (o := .cells #[.int .i64 t259, .int .i64 t260, .int .i64 t261] 37 (0, 0)) (by (with_reducible repeat (first | refine blk_drewN ?_ _ | refine blk_drew ?_ | refine blk_alloc ?_ _)); exact BK263.out) hb); have n3_ := Aside0.mk (below_step (by repeat (first | (with_reducible first | exact HB.out | apply below_alloc | apply pw_below_drewN | apply below_drew1 | refine below_set ?_ GE248.out | refine below_set ?_ GE258.out | refine below_set ?_ GE263.out) | exact HB.out)) hb); clear BK248; clear BK258; clear BK263; clear HB; have BK248 := n0_; have BK258 := n1_; have BK263 := n2_; have HB := n3_; clear n0_ n1_ n2_ n3_; (try clear hb); (try clear hb2); (try clear hk); (try clear hi)))
    (try simp only [Act.put, List.setIfInBounds_toArray, List.set_cons_zero, List.set_cons_succ])
    go_cut [119] (fun v119 wc => ∃ (kq : Nat) (x119_13 : Bool), v119 = .bool x119_13 ∧ Aside0 (laws_FnDates.j0 kq t249 t250 t253 t257 t264 t268 x119_13 t245 t246 t247 t254 t255 t256 = some r) ∧ Aside0 (kq ≤ k) ∧ Aside0 (wc.heap[gb248]? = some (.cells #[.int .i64 t245, .int .i64 t246, .int .i64 t247] 37 (0, 0))) ∧ Aside0 (wc.heap[gb258]? = some (.cells #[.int .i64 t254, .int .i64 t255, .int .i64 t256] 37 (0, 0))) ∧ Aside0 (wc.heap[gb263]? = some (.cells #[.int .i64 t259, .int .i64 t260, .int .i64 t261] 37 (0, 0))) ∧ Aside0 (Below w.heap.size w wc))
    case first =>
      have H := HC14.out
      clear HC14
      by_cases c39 : t250 = t252
      · rw [if_pos c39] at H
        have c39b0 : (t250 == t252) = true := beq_iff_eq.mpr c39
        have c39b1 : (t250 != t252) = false := bne_eq_false_iff_eq.mpr c39
        clear c39
        (first | rw [c39b0] | (simp only [i64_w, i32_w]; rw [c39b0]) | skip)
        by_cases c40 : t249 = t251
        · rw [if_pos c40] at H
          have c40b0 : (t249 == t251) = true := beq_iff_eq.mpr c40
          have c40b1 : (t249 != t251) = false := bne_eq_false_iff_eq.mpr c40
          clear c40
          by_cases c41 : t257 = t262
          · rw [if_pos c41] at H
            have c41b0 : (t257 == t262) = true := beq_iff_eq.mpr c41
            have c41b1 : (t257 != t262) = false := bne_eq_false_iff_eq.mpr c41
            clear c41
            by_cases c42 : (!(t254 == t259) || (!(t255 == t260) || (!(t256 == t261)))) = true
            · rw [if_pos c42] at H
              have c42b0 : (!(t254 == t259) || (!(t255 == t260) || (!(t256 == t261)))) = true := c42
              clear c42
              have H' := Aside0.mk H
              clear H
              have hnb43 := NB258_248.out
              have hnc43 := NB248_258.out
              have hnb44 := NB258_263.out
              have hnc44 := NB263_258.out
              have hcz45_0 : w38.cell? ⟨gb258, 0, none⟩ = some (.int .i64 t254) := (blk_cell BK258.out 0).trans rfl
              have hcz45_1 : w38.cell? ⟨gb258, 1, none⟩ = some (.int .i64 t255) := (blk_cell BK258.out 1).trans rfl
              have hcz45_2 : w38.cell? ⟨gb258, 2, none⟩ = some (.int .i64 t256) := (blk_cell BK258.out 2).trans rfl
              have hfz45_0 := blk_frozen BK258.out 0
              have hfz45_1 := blk_frozen BK258.out 1
              have hfz45_2 := blk_frozen BK258.out 2
              have hnb46 := NB263_248.out
              have hnc46 := NB248_263.out
              have hcz47_0 : w38.cell? ⟨gb263, 0, none⟩ = some (.int .i64 t259) := (blk_cell BK263.out 0).trans rfl
              have hcz47_1 : w38.cell? ⟨gb263, 1, none⟩ = some (.int .i64 t260) := (blk_cell BK263.out 1).trans rfl
              have hcz47_2 : w38.cell? ⟨gb263, 2, none⟩ = some (.int .i64 t261) := (blk_cell BK263.out 2).trans rfl
              have hfz47_0 := blk_frozen BK263.out 0
              have hfz47_1 := blk_frozen BK263.out 1
              have hfz47_2 := blk_frozen BK263.out 2
              go_wp2
              go_meet
              case rel => exact ⟨_, (true), (by first | rfl | (simp; done) | (simp [*]; done)), H', ⟨by first | omega | exact Nat.le_refl _⟩, ⟨by (with_reducible repeat (first | refine blk_drewN ?_ _ | refine blk_drew ?_ | refine blk_alloc ?_ _)); exact BK248.out⟩, ⟨by (with_reducible repeat (first | refine blk_drewN ?_ _ | refine blk_drew ?_ | refine blk_alloc ?_ _)); exact BK258.out⟩, ⟨by (with_reducible repeat (first | refine blk_drewN ?_ _ | refine blk_drew ?_ | refine blk_alloc ?_ _)); exact BK263.out⟩, ⟨by repeat (first | (with_reducible first | exact HB.out | apply below_alloc | apply pw_below_drewN | apply below_drew1 | refine below_set ?_ GE248.out | refine below_set ?_ GE258.out | refine below_set ?_ GE263.out) | exact HB.out)⟩⟩
            · rw [if_neg c42] at H
              have c42b0 : (!(t254 == t259) || (!(t255 == t260) || (!(t256 == t261)))) = false := by simpa using c42
              clear c42
              by_cases c48 : t265 = t267
              · rw [if_pos c48] at H
                have c48b0 : (t265 == t267) = true := beq_iff_eq.mpr c48
                have c48b1 : (t265 != t267) = false := bne_eq_false_iff_eq.mpr c48
                clear c48
                by_cases c49 : t264 = t266
                · rw [if_pos c49] at H
                  have c49b0 : (t264 == t266) = true := beq_iff_eq.mpr c49
                  have c49b1 : (t264 != t266) = false := bne_eq_false_iff_eq.mpr c49
                  clear c49
                  by_cases c50 : t269 = t271
                  · rw [if_pos c50] at H
                    have c50b0 : (t269 == t271) = true := beq_iff_eq.mpr c50
                    have c50b1 : (t269 != t271) = false := bne_eq_false_iff_eq.mpr c50
                    clear c50
                    by_cases c51 : t268 = t270
                    · rw [if_pos c51] at H
                      have c51b0 : (t268 == t270) = true := beq_iff_eq.mpr c51
                      have c51b1 : (t268 != t270) = false := bne_eq_false_iff_eq.mpr c51
                      clear c51
                      replace H := Option.bind_eq_some_iff.mp H
                      obtain ⟨t272, A520, H⟩ := H
                      replace H : (laws_FnDates.j0 k t249 t250 t253 t257 t264 t268 (t272 != (t252 == 0)) t245 t246 t247 t254 t255 t256) = some r := H
                      have A52 := Aside0.mk A520
                      clear A520
                      have H' := Aside0.mk H
                      clear H
                      have hnb53 := NB258_248.out
                      have hnc53 := NB248_258.out
                      have hnb54 := NB258_263.out
                      have hnc54 := NB263_258.out
                      have hcz55_0 : w38.cell? ⟨gb258, 0, none⟩ = some (.int .i64 t254) := (blk_cell BK258.out 0).trans rfl
                      have hcz55_1 : w38.cell? ⟨gb258, 1, none⟩ = some (.int .i64 t255) := (blk_cell BK258.out 1).trans rfl
                      have hcz55_2 : w38.cell? ⟨gb258, 2, none⟩ = some (.int .i64 t256) := (blk_cell BK258.out 2).trans rfl
                      have hfz55_0 := blk_frozen BK258.out 0
                      have hfz55_1 := blk_frozen BK258.out 1
                      have hfz55_2 := blk_frozen BK258.out 2
                      have hnb56 := NB263_248.out
                      have hnc56 := NB248_263.out
                      have hcz57_0 : w38.cell? ⟨gb263, 0, none⟩ = some (.int .i64 t259) := (blk_cell BK263.out 0).trans rfl
                      have hcz57_1 : w38.cell? ⟨gb263, 1, none⟩ = some (.int .i64 t260) := (blk_cell BK263.out 1).trans rfl
                      have hcz57_2 : w38.cell? ⟨gb263, 2, none⟩ = some (.int .i64 t261) := (blk_cell BK263.out 2).trans rfl
                      have hfz57_0 := blk_frozen BK263.out 0
                      have hfz57_1 := blk_frozen BK263.out 1
                      have hfz57_2 := blk_frozen BK263.out 2
                      have hcz58_0 : w38.cell? ⟨gb248, 0, none⟩ = some (.int .i64 t245) := (blk_cell BK248.out 0).trans rfl
                      have hcz58_1 : w38.cell? ⟨gb248, 1, none⟩ = some (.int .i64 t246) := (blk_cell BK248.out 1).trans rfl
                      have hcz58_2 : w38.cell? ⟨gb248, 2, none⟩ = some (.int .i64 t247) := (blk_cell BK248.out 2).trans rfl
                      have hfz58_0 := blk_frozen BK248.out 0
                      have hfz58_1 := blk_frozen BK248.out 1
                      have hfz58_2 := blk_frozen BK248.out 2
                      go_wp2_with (first | (go_at_call 50; (with_reducible refine (impl_IsDate.calls k t245 t246 t247 t272 _ A52.out).mono ?_); rintro e w59 ⟨rfl, hb⟩; have n0_ := Aside0.mk (blk_below (g := gb248) (o := .cells #[.int .i64 t245, .int .i64 t246, .int .i64 t247] 37 (0, 0)) (by (with_reducible repeat (first | refine blk_drewN ?_ _ | refine blk_drew ?_ | refine blk_alloc ?_ _)); exact BK248.out) hb); have n1_ := Aside0.mk (blk_below (g := gb258) (o := .cells #[.int .i64 t254, .int .i64 t255, .int .i64 t256] 37 (0, 0)) (by (with_reducible repeat (first | refine blk_drewN ?_ _ | refine blk_drew ?_ | refine blk_alloc ?_ _)); exact BK258.out) hb); have n2_ := Aside0.mk (blk_below (g := gb263) (o := .cells #[.int .i64 t259, .int .i64 t260, .int .i64 t261] 37 (0, 0)) (by (with_reducible repeat (first | refine blk_drewN ?_ _ | refine blk_drew ?_ | refine blk_alloc ?_ _)); exact BK263.out) hb); have n3_ := Aside0.mk (below_step (by repeat (first | (with_reducible first | exact HB.out | apply below_alloc | apply pw_below_drewN | apply below_drew1 | refine below_set ?_ GE248.out | refine below_set ?_ GE258.out | refine below_set ?_ GE263.out) | exact HB.out)) hb); clear BK248; clear BK258; clear BK263; clear HB; have BK248 := n0_; have BK258 := n1_; have BK263 := n2_; have HB := n3_; clear n0_ n1_ n2_ n3_; (try clear hb); (try clear hb2); (try clear hk); (try clear hi)))
                      go_meet
                      case rel => exact ⟨_, ((t272 != (t252 == 0))), (by first | rfl | (simp; done) | (simp [*]; done)), H', ⟨by first | omega | exact Nat.le_refl _⟩, ⟨by (with_reducible repeat (first | refine blk_drewN ?_ _ | refine blk_drew ?_ | refine blk_alloc ?_ _)); exact BK248.out⟩, ⟨by (with_reducible repeat (first | refine blk_drewN ?_ _ | refine blk_drew ?_ | refine blk_alloc ?_ _)); exact BK258.out⟩, ⟨by (with_reducible repeat (first | refine blk_drewN ?_ _ | refine blk_drew ?_ | refine blk_alloc ?_ _)); exact BK263.out⟩, ⟨by repeat (first | (with_reducible first | exact HB.out | apply below_alloc | apply pw_below_drewN | apply below_drew1 | refine below_set ?_ GE248.out | refine below_set ?_ GE258.out | refine below_set ?_ GE263.out) | exact HB.out)⟩⟩
                    · rw [if_neg c51] at H
                      have c51b0 : (t268 == t270) = false := beq_eq_false_iff_ne.mpr c51
                      have c51b1 : (t268 != t270) = true := bne_iff_ne.mpr c51
                      have H' := Aside0.mk H
                      clear H
                      have hnb60 := NB258_248.out
                      have hnc60 := NB248_258.out
                      have hnb61 := NB258_263.out
                      have hnc61 := NB263_258.out
                      have hcz62_0 : w38.cell? ⟨gb258, 0, none⟩ = some (.int .i64 t254) := (blk_cell BK258.out 0).trans rfl
                      have hcz62_1 : w38.cell? ⟨gb258, 1, none⟩ = some (.int .i64 t255) := (blk_cell BK258.out 1).trans rfl
                      have hcz62_2 : w38.cell? ⟨gb258, 2, none⟩ = some (.int .i64 t256) := (blk_cell BK258.out 2).trans rfl
                      have hfz62_0 := blk_frozen BK258.out 0
                      have hfz62_1 := blk_frozen BK258.out 1
                      have hfz62_2 := blk_frozen BK258.out 2
                      have hnb63 := NB263_248.out
                      have hnc63 := NB248_263.out
                      have hcz64_0 : w38.cell? ⟨gb263, 0, none⟩ = some (.int .i64 t259) := (blk_cell BK263.out 0).trans rfl
                      have hcz64_1 : w38.cell? ⟨gb263, 1, none⟩ = some (.int .i64 t260) := (blk_cell BK263.out 1).trans rfl
                      have hcz64_2 : w38.cell? ⟨gb263, 2, none⟩ = some (.int .i64 t261) := (blk_cell BK263.out 2).trans rfl
                      have hfz64_0 := blk_frozen BK263.out 0
                      have hfz64_1 := blk_frozen BK263.out 1
                      have hfz64_2 := blk_frozen BK263.out 2
                      go_wp2
                      go_meet
                      case rel => exact ⟨_, (true), (by first | rfl | (simp; done) | (simp [*]; done)), H', ⟨by first | omega | exact Nat.le_refl _⟩, ⟨by (with_reducible repeat (first | refine blk_drewN ?_ _ | refine blk_drew ?_ | refine blk_alloc ?_ _)); exact BK248.out⟩, ⟨by (with_reducible repeat (first | refine blk_drewN ?_ _ | refine blk_drew ?_ | refine blk_alloc ?_ _)); exact BK258.out⟩, ⟨by (with_reducible repeat (first | refine blk_drewN ?_ _ | refine blk_drew ?_ | refine blk_alloc ?_ _)); exact BK263.out⟩, ⟨by repeat (first | (with_reducible first | exact HB.out | apply below_alloc | apply pw_below_drewN | apply below_drew1 | refine below_set ?_ GE248.out | refine below_set ?_ GE258.out | refine below_set ?_ GE263.out) | exact HB.out)⟩⟩
                  · rw [if_neg c50] at H
                    have c50b0 : (t269 == t271) = false := beq_eq_false_iff_ne.mpr c50
                    have c50b1 : (t269 != t271) = true := bne_iff_ne.mpr c50
                    have H' := Aside0.mk H
                    clear H
                    have hnb65 := NB258_248.out
                    have hnc65 := NB248_258.out
                    have hnb66 := NB258_263.out
                    have hnc66 := NB263_258.out
                    have hcz67_0 : w38.cell? ⟨gb258, 0, none⟩ = some (.int .i64 t254) := (blk_cell BK258.out 0).trans rfl
                    have hcz67_1 : w38.cell? ⟨gb258, 1, none⟩ = some (.int .i64 t255) := (blk_cell BK258.out 1).trans rfl
                    have hcz67_2 : w38.cell? ⟨gb258, 2, none⟩ = some (.int .i64 t256) := (blk_cell BK258.out 2).trans rfl
                    have hfz67_0 := blk_frozen BK258.out 0
                    have hfz67_1 := blk_frozen BK258.out 1
                    have hfz67_2 := blk_frozen BK258.out 2
                    have hnb68 := NB263_248.out
                    have hnc68 := NB248_263.out
                    have hcz69_0 : w38.cell? ⟨gb263, 0, none⟩ = some (.int .i64 t259) := (blk_cell BK263.out 0).trans rfl
                    have hcz69_1 : w38.cell? ⟨gb263, 1, none⟩ = some (.int .i64 t260) := (blk_cell BK263.out 1).trans rfl
                    have hcz69_2 : w38.cell? ⟨gb263, 2, none⟩ = some (.int .i64 t261) := (blk_cell BK263.out 2).trans rfl
                    have hfz69_0 := blk_frozen BK263.out 0
                    have hfz69_1 := blk_frozen BK263.out 1
                    have hfz69_2 := blk_frozen BK263.out 2
                    go_wp2
                    go_meet
                    case rel => exact ⟨_, (true), (by first | rfl | (simp; done) | (simp [*]; done)), H', ⟨by first | omega | exact Nat.le_refl _⟩, ⟨by (with_reducible repeat (first | refine blk_drewN ?_ _ | refine blk_drew ?_ | refine blk_alloc ?_ _)); exact BK248.out⟩, ⟨by (with_reducible repeat (first | refine blk_drewN ?_ _ | refine blk_drew ?_ | refine blk_alloc ?_ _)); exact BK258.out⟩, ⟨by (with_reducible repeat (first | refine blk_drewN ?_ _ | refine blk_drew ?_ | refine blk_alloc ?_ _)); exact BK263.out⟩, ⟨by repeat (first | (with_reducible first | exact HB.out | apply below_alloc | apply pw_below_drewN | apply below_drew1 | refine below_set ?_ GE248.out | refine below_set ?_ GE258.out | refine below_set ?_ GE263.out) | exact HB.out)⟩⟩
                · rw [if_neg c49] at H
                  have c49b0 : (t264 == t266) = false := beq_eq_false_iff_ne.mpr c49
                  have c49b1 : (t264 != t266) = true := bne_iff_ne.mpr c49
                  have H' := Aside0.mk H
                  clear H
                  have hnb70 := NB258_248.out
                  have hnc70 := NB248_258.out
                  have hnb71 := NB258_263.out
                  have hnc71 := NB263_258.out
                  have hcz72_0 : w38.cell? ⟨gb258, 0, none⟩ = some (.int .i64 t254) := (blk_cell BK258.out 0).trans rfl
                  have hcz72_1 : w38.cell? ⟨gb258, 1, none⟩ = some (.int .i64 t255) := (blk_cell BK258.out 1).trans rfl
                  have hcz72_2 : w38.cell? ⟨gb258, 2, none⟩ = some (.int .i64 t256) := (blk_cell BK258.out 2).trans rfl
                  have hfz72_0 := blk_frozen BK258.out 0
                  have hfz72_1 := blk_frozen BK258.out 1
                  have hfz72_2 := blk_frozen BK258.out 2
                  have hnb73 := NB263_248.out
                  have hnc73 := NB248_263.out
                  have hcz74_0 : w38.cell? ⟨gb263, 0, none⟩ = some (.int .i64 t259) := (blk_cell BK263.out 0).trans rfl
                  have hcz74_1 : w38.cell? ⟨gb263, 1, none⟩ = some (.int .i64 t260) := (blk_cell BK263.out 1).trans rfl
                  have hcz74_2 : w38.cell? ⟨gb263, 2, none⟩ = some (.int .i64 t261) := (blk_cell BK263.out 2).trans rfl
                  have hfz74_0 := blk_frozen BK263.out 0
                  have hfz74_1 := blk_frozen BK263.out 1
                  have hfz74_2 := blk_frozen BK263.out 2
                  go_wp2
                  go_meet
                  case rel => exact ⟨_, (true), (by first | rfl | (simp; done) | (simp [*]; done)), H', ⟨by first | omega | exact Nat.le_refl _⟩, ⟨by (with_reducible repeat (first | refine blk_drewN ?_ _ | refine blk_drew ?_ | refine blk_alloc ?_ _)); exact BK248.out⟩, ⟨by (with_reducible repeat (first | refine blk_drewN ?_ _ | refine blk_drew ?_ | refine blk_alloc ?_ _)); exact BK258.out⟩, ⟨by (with_reducible repeat (first | refine blk_drewN ?_ _ | refine blk_drew ?_ | refine blk_alloc ?_ _)); exact BK263.out⟩, ⟨by repeat (first | (with_reducible first | exact HB.out | apply below_alloc | apply pw_below_drewN | apply below_drew1 | refine below_set ?_ GE248.out | refine below_set ?_ GE258.out | refine below_set ?_ GE263.out) | exact HB.out)⟩⟩
              · rw [if_neg c48] at H
                have c48b0 : (t265 == t267) = false := beq_eq_false_iff_ne.mpr c48
                have c48b1 : (t265 != t267) = true := bne_iff_ne.mpr c48
                have H' := Aside0.mk H
                clear H
                have hnb75 := NB258_248.out
                have hnc75 := NB248_258.out
                have hnb76 := NB258_263.out
                have hnc76 := NB263_258.out
                have hcz77_0 : w38.cell? ⟨gb258, 0, none⟩ = some (.int .i64 t254) := (blk_cell BK258.out 0).trans rfl
                have hcz77_1 : w38.cell? ⟨gb258, 1, none⟩ = some (.int .i64 t255) := (blk_cell BK258.out 1).trans rfl
                have hcz77_2 : w38.cell? ⟨gb258, 2, none⟩ = some (.int .i64 t256) := (blk_cell BK258.out 2).trans rfl
                have hfz77_0 := blk_frozen BK258.out 0
                have hfz77_1 := blk_frozen BK258.out 1
                have hfz77_2 := blk_frozen BK258.out 2
                have hnb78 := NB263_248.out
                have hnc78 := NB248_263.out
                have hcz79_0 : w38.cell? ⟨gb263, 0, none⟩ = some (.int .i64 t259) := (blk_cell BK263.out 0).trans rfl
                have hcz79_1 : w38.cell? ⟨gb263, 1, none⟩ = some (.int .i64 t260) := (blk_cell BK263.out 1).trans rfl
                have hcz79_2 : w38.cell? ⟨gb263, 2, none⟩ = some (.int .i64 t261) := (blk_cell BK263.out 2).trans rfl
                have hfz79_0 := blk_frozen BK263.out 0
                have hfz79_1 := blk_frozen BK263.out 1
                have hfz79_2 := blk_frozen BK263.out 2
                go_wp2
                go_meet
                case rel => exact ⟨_, (true), (by first | rfl | (simp; done) | (simp [*]; done)), H', ⟨by first | omega | exact Nat.le_refl _⟩, ⟨by (with_reducible repeat (first | refine blk_drewN ?_ _ | refine blk_drew ?_ | refine blk_alloc ?_ _)); exact BK248.out⟩, ⟨by (with_reducible repeat (first | refine blk_drewN ?_ _ | refine blk_drew ?_ | refine blk_alloc ?_ _)); exact BK258.out⟩, ⟨by (with_reducible repeat (first | refine blk_drewN ?_ _ | refine blk_drew ?_ | refine blk_alloc ?_ _)); exact BK263.out⟩, ⟨by repeat (first | (with_reducible first | exact HB.out | apply below_alloc | apply pw_below_drewN | apply below_drew1 | refine below_set ?_ GE248.out | refine below_set ?_ GE258.out | refine below_set ?_ GE263.out) | exact HB.out)⟩⟩
          · rw [if_neg c41] at H
            have c41b0 : (t257 == t262) = false := beq_eq_false_iff_ne.mpr c41
            have c41b1 : (t257 != t262) = true := bne_iff_ne.mpr c41
            have H' := Aside0.mk H
            clear H
            go_wp2
            go_meet
            case rel => exact ⟨_, (true), (by first | rfl | (simp; done) | (simp [*]; done)), H', ⟨by first | omega | exact Nat.le_refl _⟩, ⟨by (with_reducible repeat (first | refine blk_drewN ?_ _ | refine blk_drew ?_ | refine blk_alloc ?_ _)); exact BK248.out⟩, ⟨by (with_reducible repeat (first | refine blk_drewN ?_ _ | refine blk_drew ?_ | refine blk_alloc ?_ _)); exact BK258.out⟩, ⟨by (with_reducible repeat (first | refine blk_drewN ?_ _ | refine blk_drew ?_ | refine blk_alloc ?_ _)); exact BK263.out⟩, ⟨by repeat (first | (with_reducible first | exact HB.out | apply below_alloc | apply pw_below_drewN | apply below_drew1 | refine below_set ?_ GE248.out | refine below_set ?_ GE258.out | refine below_set ?_ GE263.out) | exact HB.out)⟩⟩
        · rw [if_neg c40] at H
          have c40b0 : (t249 == t251) = false := beq_eq_false_iff_ne.mpr c40
          have c40b1 : (t249 != t251) = true := bne_iff_ne.mpr c40
          have H' := Aside0.mk H
          clear H
          go_wp2
          go_meet
          case rel => exact ⟨_, (true), (by first | rfl | (simp; done) | (simp [*]; done)), H', ⟨by first | omega | exact Nat.le_refl _⟩, ⟨by (with_reducible repeat (first | refine blk_drewN ?_ _ | refine blk_drew ?_ | refine blk_alloc ?_ _)); exact BK248.out⟩, ⟨by (with_reducible repeat (first | refine blk_drewN ?_ _ | refine blk_drew ?_ | refine blk_alloc ?_ _)); exact BK258.out⟩, ⟨by (with_reducible repeat (first | refine blk_drewN ?_ _ | refine blk_drew ?_ | refine blk_alloc ?_ _)); exact BK263.out⟩, ⟨by repeat (first | (with_reducible first | exact HB.out | apply below_alloc | apply pw_below_drewN | apply below_drew1 | refine below_set ?_ GE248.out | refine below_set ?_ GE258.out | refine below_set ?_ GE263.out) | exact HB.out)⟩⟩
      · rw [if_neg c39] at H
        have c39b0 : (t250 == t252) = false := beq_eq_false_iff_ne.mpr c39
        have c39b1 : (t250 != t252) = true := bne_iff_ne.mpr c39
        (first | rw [c39b0] | (simp only [i64_w, i32_w]; rw [c39b0]) | skip)
        have H' := Aside0.mk H
        clear H
        go_wp2
        go_meet
        case rel => exact ⟨_, (true), (by first | rfl | (simp; done) | (simp [*]; done)), H', ⟨by first | omega | exact Nat.le_refl _⟩, ⟨by (with_reducible repeat (first | refine blk_drewN ?_ _ | refine blk_drew ?_ | refine blk_alloc ?_ _)); exact BK248.out⟩, ⟨by (with_reducible repeat (first | refine blk_drewN ?_ _ | refine blk_drew ?_ | refine blk_alloc ?_ _)); exact BK258.out⟩, ⟨by (with_reducible repeat (first | refine blk_drewN ?_ _ | refine blk_drew ?_ | refine blk_alloc ?_ _)); exact BK263.out⟩, ⟨by repeat (first | (with_reducible first | exact HB.out | apply below_alloc | apply pw_below_drewN | apply below_drew1 | refine below_set ?_ GE248.out | refine below_set ?_ GE258.out | refine below_set ?_ GE263.out) | exact HB.out)⟩⟩
    case rest =>
      clear HC14
      try clear c2
      try clear p2
      try clear c3
      try clear c4
      try clear c5
      try clear c6
      try clear c7
      try clear c9
      try clear c24
      try clear c28
      try clear c29
      try clear c39
      try clear c39b0
      try clear c39b1
      try clear c40
      try clear c40b0
      try clear c40b1
      try clear c41
      try clear c41b0
      try clear c41b1
      try clear c42
      try clear c42b0
      try clear c43
      try clear c44
      try clear c45
      try clear c46
      try clear c47
      try clear c48
      try clear c48b0
      try clear c48b1
      try clear c49
      try clear c49b0
      try clear c49b1
      try clear c50
      try clear c50b0
      try clear c50b1
      try clear c51
      try clear c51b0
      try clear c51b1
      try clear c53
      try clear c54
      try clear c56
      try clear c60
      try clear c61
      try clear c63
      try clear c65
      try clear c66
      try clear c68
      try clear c70
      try clear c71
      try clear c73
      try clear c75
      try clear c76
      try clear c78
      try clear hcz17_0
      try clear hcz17_1
      try clear hcz17_2
      try clear hcz19_0
      try clear hcz19_1
      try clear hcz19_2
      try clear hcz25_0
      try clear hcz25_1
      try clear hcz25_2
      try clear hcz30_0
      try clear hcz30_1
      try clear hcz30_2
      try clear hcz31_0
      try clear hcz31_1
      try clear hcz31_2
      try clear hcz33_0
      try clear hcz33_1
      try clear hcz33_2
      try clear hcz35_0
      try clear hcz35_1
      try clear hcz35_2
      try clear hcz37_0
      try clear hcz37_1
      try clear hcz37_2
      try clear hcz45_0
      try clear hcz45_1
      try clear hcz45_2
      try clear hcz47_0
      try clear hcz47_1
      try clear hcz47_2
      try clear hcz55_0
      try clear hcz55_1
      try clear hcz55_2
      try clear hcz57_0
      try clear hcz57_1
      try clear hcz57_2
      try clear hcz58_0
      try clear hcz58_1
      try clear hcz58_2
      try clear hcz62_0
      try clear hcz62_1
      try clear hcz62_2
      try clear hcz64_0
      try clear hcz64_1
      try clear hcz64_2
      try clear hcz67_0
      try clear hcz67_1
      try clear hcz67_2
      try clear hcz69_0
      try clear hcz69_1
      try clear hcz69_2
      try clear hcz72_0
      try clear hcz72_1
      try clear hcz72_2
      try clear hcz74_0
      try clear hcz74_1
      try clear hcz74_2
      try clear hcz77_0
      try clear hcz77_1
      try clear hcz77_2
      try clear hcz79_0
      try clear hcz79_1
      try clear hcz79_2
      try clear hfz17_0
      try clear hfz17_1
      try clear hfz17_2
      try clear hfz19_0
      try clear hfz19_1
      try clear hfz19_2
      try clear hfz25_0
      try clear hfz25_1
      try clear hfz25_2
      try clear hfz30_0
      try clear hfz30_1
      try clear hfz30_2
      try clear hfz31_0
      try clear hfz31_1
      try clear hfz31_2
      try clear hfz33_0
      try clear hfz33_1
      try clear hfz33_2
      try clear hfz35_0
      try clear hfz35_1
      try clear hfz35_2
      try clear hfz37_0
      try clear hfz37_1
      try clear hfz37_2
      try clear hfz45_0
      try clear hfz45_1
      try clear hfz45_2
      try clear hfz47_0
      try clear hfz47_1
      try clear hfz47_2
      try clear hfz55_0
      try clear hfz55_1
      try clear hfz55_2
      try clear hfz57_0
      try clear hfz57_1
      try clear hfz57_2
      try clear hfz58_0
      try clear hfz58_1
      try clear hfz58_2
      try clear hfz62_0
      try clear hfz62_1
      try clear hfz62_2
      try clear hfz64_0
      try clear hfz64_1
      try clear hfz64_2
      try clear hfz67_0
      try clear hfz67_1
      try clear hfz67_2
      try clear hfz69_0
      try clear hfz69_1
      try clear hfz69_2
      try clear hfz72_0
      try clear hfz72_1
      try clear hfz72_2
      try clear hfz74_0
      try clear hfz74_1
      try clear hfz74_2
      try clear hfz77_0
      try clear hfz77_1
      try clear hfz77_2
      try clear hfz79_0
      try clear hfz79_1
      try clear hfz79_2
      obtain ⟨kq, x119_13, rfl, HA, HJ13, BK248, BK258, BK263, HB⟩ := hcut
      cases kq with
      | zero => exact absurd HA.out (by simp [laws_FnDates.j0])
      | succ kj13 =>
        have H := HA.out
        clear HA
        simp only [laws_FnDates.j0] at H
        by_cases c80 : x119_13 = true
        · subst c80
          have H1 : (some false) = some r := by rw [if_pos rfl] at H; exact H
          clear H
          have H := H1
          clear H1
          obtain rfl := Option.some.inj H
          go_wp2
          go_ret
          exact ⟨by first | rfl | (simp [errW_none, errW_some] <;> rfl) | (simp [*, errW_none, errW_some] <;> rfl), by repeat (first | (with_reducible first | exact HB.out | apply below_alloc | apply pw_below_drewN | apply below_drew1 | refine below_set ?_ GE248.out | refine below_set ?_ GE258.out | refine below_set ?_ GE263.out) | exact HB.out)⟩
        · replace c80 := Bool.eq_false_iff.mpr c80
          subst c80
          have H1 : (if t257 = 0 then ((impl_DayNumber.f kj13 t254 t255 t256).bind fun bt273 => (if bt273.2 = 0 then (if bt273.1 = t253 then (laws_FnDates.j1 kj13 t249 t250 t264 t268 t245 t246 t247) else (some false)) else (some false))) else (laws_FnDates.j1 kj13 t249 t250 t264 t268 t245 t246 t247)) = some r := by rw [if_neg (show ¬ (false = true) by decide)] at H; exact H
          clear H
          have H := H1
          clear H1
          have HC81 := Aside0.mk H
          clear H
          go_upto_if 121 with (fail)
          go_cut [] (fun wc => ∃ (kq : Nat), Aside0 (laws_FnDates.j1 kq t249 t250 t264 t268 t245 t246 t247 = some r) ∧ Aside0 (kq ≤ kj13) ∧ Aside0 (wc.heap[gb248]? = some (.cells #[.int .i64 t245, .int .i64 t246, .int .i64 t247] 37 (0, 0))) ∧ Aside0 (wc.heap[gb258]? = some (.cells #[.int .i64 t254, .int .i64 t255, .int .i64 t256] 37 (0, 0))) ∧ Aside0 (wc.heap[gb263]? = some (.cells #[.int .i64 t259, .int .i64 t260, .int .i64 t261] 37 (0, 0))) ∧ Aside0 (Below w.heap.size w wc))
          case first =>
            have H := HC81.out
            clear HC81
            by_cases c82 : t257 = 0
            · rw [if_pos c82] at H
              have c82b0 : (t257 == 0) = true := beq_iff_eq.mpr c82
              have c82b1 : (t257 != 0) = false := bne_eq_false_iff_eq.mpr c82
              clear c82
              (first | rw [c82b0] | (simp only [i64_w, i32_w]; rw [c82b0]) | skip)
              replace H := Option.bind_eq_some_iff.mp H
              obtain ⟨⟨t273, t274⟩, A830, H⟩ := H
              replace H : (if t274 = 0 then (if t273 = t253 then (laws_FnDates.j1 kj13 t249 t250 t264 t268 t245 t246 t247) else (some false)) else (some false)) = some r := H
              have A83 := Aside0.mk A830
              clear A830
              by_cases c84 : t274 = 0
              · rw [if_pos c84] at H
                have c84b0 : (t274 == 0) = true := beq_iff_eq.mpr c84
                have c84b1 : (t274 != 0) = false := bne_eq_false_iff_eq.mpr c84
                clear c84
                by_cases c85 : t273 = t253
                · rw [if_pos c85] at H
                  have c85b0 : (t273 == t253) = true := beq_iff_eq.mpr c85
                  have c85b1 : (t273 != t253) = false := bne_eq_false_iff_eq.mpr c85
                  clear c85
                  have H' := Aside0.mk H
                  clear H
                  have hnb86 := NB258_248.out
                  have hnc86 := NB248_258.out
                  have hnb87 := NB258_263.out
                  have hnc87 := NB263_258.out
                  have hcz88_0 : wc.cell? ⟨gb258, 0, none⟩ = some (.int .i64 t254) := (blk_cell BK258.out 0).trans rfl
                  have hcz88_1 : wc.cell? ⟨gb258, 1, none⟩ = some (.int .i64 t255) := (blk_cell BK258.out 1).trans rfl
                  have hcz88_2 : wc.cell? ⟨gb258, 2, none⟩ = some (.int .i64 t256) := (blk_cell BK258.out 2).trans rfl
                  have hfz88_0 := blk_frozen BK258.out 0
                  have hfz88_1 := blk_frozen BK258.out 1
                  have hfz88_2 := blk_frozen BK258.out 2
                  go_wp2_with (first | ((with_reducible refine gate_callee (f := 41) rfl ?_); refine goesL_ (some 124) rfl rfl Try.func41 (by kernel_rfl) rfl #[.agg #[.int .i64 t254, .int .i64 t255, .int .i64 t256]] rfl (by (try simp only [List.map_toArray, List.map_cons, List.map_nil]); first | done | rfl | (simp only [List.length_drop, List.length_take]; rfl)) ?_; (with_reducible refine (impl_DayNumber.calls kj13 t254 t255 t256 t273 t274 _ A83.out).mono ?_); rintro e w89 ⟨rfl, hb⟩; refine ⟨_, rfl, ?_⟩; have n0_ := Aside0.mk (blk_below (g := gb248) (o := .cells #[.int .i64 t245, .int .i64 t246, .int .i64 t247] 37 (0, 0)) (by (with_reducible repeat (first | refine blk_drewN ?_ _ | refine blk_drew ?_ | refine blk_alloc ?_ _)); exact BK248.out) hb); have n1_ := Aside0.mk (blk_below (g := gb258) (o := .cells #[.int .i64 t254, .int .i64 t255, .int .i64 t256] 37 (0, 0)) (by (with_reducible repeat (first | refine blk_drewN ?_ _ | refine blk_drew ?_ | refine blk_alloc ?_ _)); exact BK258.out) hb); have n2_ := Aside0.mk (blk_below (g := gb263) (o := .cells #[.int .i64 t259, .int .i64 t260, .int .i64 t261] 37 (0, 0)) (by (with_reducible repeat (first | refine blk_drewN ?_ _ | refine blk_drew ?_ | refine blk_alloc ?_ _)); exact BK263.out) hb); have n3_ := Aside0.mk (below_step (by repeat (first | (with_reducible first | exact HB.out | apply below_alloc | apply pw_below_drewN | apply below_drew1 | refine below_set ?_ GE248.out | refine below_set ?_ GE258.out | refine below_set ?_ GE263.out) | exact HB.out)) hb); clear BK248; clear BK258; clear BK263; clear HB; have BK248 := n0_; have BK258 := n1_; have BK263 := n2_; have HB := n3_; clear n0_ n1_ n2_ n3_; (try clear hb); (try clear hb2); (try clear hk); (try clear hi)))
                  go_meet
                  case rel => exact ⟨_, H', ⟨by have := HJ13.out; first | omega | exact Nat.le_refl _⟩, ⟨by (with_reducible repeat (first | refine blk_drewN ?_ _ | refine blk_drew ?_ | refine blk_alloc ?_ _)); exact BK248.out⟩, ⟨by (with_reducible repeat (first | refine blk_drewN ?_ _ | refine blk_drew ?_ | refine blk_alloc ?_ _)); exact BK258.out⟩, ⟨by (with_reducible repeat (first | refine blk_drewN ?_ _ | refine blk_drew ?_ | refine blk_alloc ?_ _)); exact BK263.out⟩, ⟨by repeat (first | (with_reducible first | exact HB.out | apply below_alloc | apply pw_below_drewN | apply below_drew1 | refine below_set ?_ GE248.out | refine below_set ?_ GE258.out | refine below_set ?_ GE263.out) | exact HB.out)⟩⟩
                · rw [if_neg c85] at H
                  have c85b0 : (t273 == t253) = false := beq_eq_false_iff_ne.mpr c85
                  have c85b1 : (t273 != t253) = true := bne_iff_ne.mpr c85
                  obtain rfl := Option.some.inj H
                  have hnb90 := NB258_248.out
                  have hnc90 := NB248_258.out
                  have hnb91 := NB258_263.out
                  have hnc91 := NB263_258.out
                  have hcz92_0 : wc.cell? ⟨gb258, 0, none⟩ = some (.int .i64 t254) := (blk_cell BK258.out 0).trans rfl
                  have hcz92_1 : wc.cell? ⟨gb258, 1, none⟩ = some (.int .i64 t255) := (blk_cell BK258.out 1).trans rfl
                  have hcz92_2 : wc.cell? ⟨gb258, 2, none⟩ = some (.int .i64 t256) := (blk_cell BK258.out 2).trans rfl
                  have hfz92_0 := blk_frozen BK258.out 0
                  have hfz92_1 := blk_frozen BK258.out 1
                  have hfz92_2 := blk_frozen BK258.out 2
                  go_wp2_with (first | ((with_reducible refine gate_callee (f := 41) rfl ?_); refine goesL_ (some 124) rfl rfl Try.func41 (by kernel_rfl) rfl #[.agg #[.int .i64 t254, .int .i64 t255, .int .i64 t256]] rfl (by (try simp only [List.map_toArray, List.map_cons, List.map_nil]); first | done | rfl | (simp only [List.length_drop, List.length_take]; rfl)) ?_; (with_reducible refine (impl_DayNumber.calls kj13 t254 t255 t256 t273 t274 _ A83.out).mono ?_); rintro e w93 ⟨rfl, hb⟩; refine ⟨_, rfl, ?_⟩; have n0_ := Aside0.mk (blk_below (g := gb248) (o := .cells #[.int .i64 t245, .int .i64 t246, .int .i64 t247] 37 (0, 0)) (by (with_reducible repeat (first | refine blk_drewN ?_ _ | refine blk_drew ?_ | refine blk_alloc ?_ _)); exact BK248.out) hb); have n1_ := Aside0.mk (blk_below (g := gb258) (o := .cells #[.int .i64 t254, .int .i64 t255, .int .i64 t256] 37 (0, 0)) (by (with_reducible repeat (first | refine blk_drewN ?_ _ | refine blk_drew ?_ | refine blk_alloc ?_ _)); exact BK258.out) hb); have n2_ := Aside0.mk (blk_below (g := gb263) (o := .cells #[.int .i64 t259, .int .i64 t260, .int .i64 t261] 37 (0, 0)) (by (with_reducible repeat (first | refine blk_drewN ?_ _ | refine blk_drew ?_ | refine blk_alloc ?_ _)); exact BK263.out) hb); have n3_ := Aside0.mk (below_step (by repeat (first | (with_reducible first | exact HB.out | apply below_alloc | apply pw_below_drewN | apply below_drew1 | refine below_set ?_ GE248.out | refine below_set ?_ GE258.out | refine below_set ?_ GE263.out) | exact HB.out)) hb); clear BK248; clear BK258; clear BK263; clear HB; have BK248 := n0_; have BK258 := n1_; have BK263 := n2_; have HB := n3_; clear n0_ n1_ n2_ n3_; (try clear hb); (try clear hb2); (try clear hk); (try clear hi)))
                  go_ret
                  exact ⟨by first | rfl | (simp [errW_none, errW_some] <;> rfl) | (simp [*, errW_none, errW_some] <;> rfl), by repeat (first | (with_reducible first | exact HB.out | apply below_alloc | apply pw_below_drewN | apply below_drew1 | refine below_set ?_ GE248.out | refine below_set ?_ GE258.out | refine below_set ?_ GE263.out) | exact HB.out)⟩
              · rw [if_neg c84] at H
                have c84b0 : (t274 == 0) = false := beq_eq_false_iff_ne.mpr c84
                have c84b1 : (t274 != 0) = true := bne_iff_ne.mpr c84
                obtain rfl := Option.some.inj H
                have hnb94 := NB258_248.out
                have hnc94 := NB248_258.out
                have hnb95 := NB258_263.out
                have hnc95 := NB263_258.out
                have hcz96_0 : wc.cell? ⟨gb258, 0, none⟩ = some (.int .i64 t254) := (blk_cell BK258.out 0).trans rfl
                have hcz96_1 : wc.cell? ⟨gb258, 1, none⟩ = some (.int .i64 t255) := (blk_cell BK258.out 1).trans rfl
                have hcz96_2 : wc.cell? ⟨gb258, 2, none⟩ = some (.int .i64 t256) := (blk_cell BK258.out 2).trans rfl
                have hfz96_0 := blk_frozen BK258.out 0
                have hfz96_1 := blk_frozen BK258.out 1
                have hfz96_2 := blk_frozen BK258.out 2
                go_wp2_with (first | ((with_reducible refine gate_callee (f := 41) rfl ?_); refine goesL_ (some 124) rfl rfl Try.func41 (by kernel_rfl) rfl #[.agg #[.int .i64 t254, .int .i64 t255, .int .i64 t256]] rfl (by (try simp only [List.map_toArray, List.map_cons, List.map_nil]); first | done | rfl | (simp only [List.length_drop, List.length_take]; rfl)) ?_; (with_reducible refine (impl_DayNumber.calls kj13 t254 t255 t256 t273 t274 _ A83.out).mono ?_); rintro e w97 ⟨rfl, hb⟩; refine ⟨_, rfl, ?_⟩; have n0_ := Aside0.mk (blk_below (g := gb248) (o := .cells #[.int .i64 t245, .int .i64 t246, .int .i64 t247] 37 (0, 0)) (by (with_reducible repeat (first | refine blk_drewN ?_ _ | refine blk_drew ?_ | refine blk_alloc ?_ _)); exact BK248.out) hb); have n1_ := Aside0.mk (blk_below (g := gb258) (o := .cells #[.int .i64 t254, .int .i64 t255, .int .i64 t256] 37 (0, 0)) (by (with_reducible repeat (first | refine blk_drewN ?_ _ | refine blk_drew ?_ | refine blk_alloc ?_ _)); exact BK258.out) hb); have n2_ := Aside0.mk (blk_below (g := gb263) (o := .cells #[.int .i64 t259, .int .i64 t260, .int .i64 t261] 37 (0, 0)) (by (with_reducible repeat (first | refine blk_drewN ?_ _ | refine blk_drew ?_ | refine blk_alloc ?_ _)); exact BK263.out) hb); have n3_ := Aside0.mk (below_step (by repeat (first | (with_reducible first | exact HB.out | apply below_alloc | apply pw_below_drewN | apply below_drew1 | refine below_set ?_ GE248.out | refine below_set ?_ GE258.out | refine below_set ?_ GE263.out) | exact HB.out)) hb); clear BK248; clear BK258; clear BK263; clear HB; have BK248 := n0_; have BK258 := n1_; have BK263 := n2_; have HB := n3_; clear n0_ n1_ n2_ n3_; (try clear hb); (try clear hb2); (try clear hk); (try clear hi)))
                go_ret
                exact ⟨by first | rfl | (simp [errW_none, errW_some] <;> rfl) | (simp [*, errW_none, errW_some] <;> rfl), by repeat (first | (with_reducible first | exact HB.out | apply below_alloc | apply pw_below_drewN | apply below_drew1 | refine below_set ?_ GE248.out | refine below_set ?_ GE258.out | refine below_set ?_ GE263.out) | exact HB.out)⟩
            · rw [if_neg c82] at H
              have c82b0 : (t257 == 0) = false := beq_eq_false_iff_ne.mpr c82
              have c82b1 : (t257 != 0) = true := bne_iff_ne.mpr c82
              (first | rw [c82b0] | (simp only [i64_w, i32_w]; rw [c82b0]) | skip)
              have H' := Aside0.mk H
              clear H
              go_wp2
              go_meet
              case rel => exact ⟨_, H', ⟨by have := HJ13.out; first | omega | exact Nat.le_refl _⟩, ⟨by (with_reducible repeat (first | refine blk_drewN ?_ _ | refine blk_drew ?_ | refine blk_alloc ?_ _)); exact BK248.out⟩, ⟨by (with_reducible repeat (first | refine blk_drewN ?_ _ | refine blk_drew ?_ | refine blk_alloc ?_ _)); exact BK258.out⟩, ⟨by (with_reducible repeat (first | refine blk_drewN ?_ _ | refine blk_drew ?_ | refine blk_alloc ?_ _)); exact BK263.out⟩, ⟨by repeat (first | (with_reducible first | exact HB.out | apply below_alloc | apply pw_below_drewN | apply below_drew1 | refine below_set ?_ GE248.out | refine below_set ?_ GE258.out | refine below_set ?_ GE263.out) | exact HB.out)⟩⟩
          case rest =>
            clear HC81
            try clear c2
            try clear p2
            try clear c3
            try clear c4
            try clear c5
            try clear c6
            try clear c7
            try clear c8
            try clear c9
            try clear c24
            try clear c28
            try clear c29
            try clear c39
            try clear c39b0
            try clear c39b1
            try clear c40
            try clear c40b0
            try clear c40b1
            try clear c41
            try clear c41b0
            try clear c41b1
            try clear c42
            try clear c42b0
            try clear c43
            try clear c44
            try clear c45
            try clear c46
            try clear c47
            try clear c48
            try clear c48b0
            try clear c48b1
            try clear c49
            try clear c49b0
            try clear c49b1
            try clear c50
            try clear c50b0
            try clear c50b1
            try clear c51
            try clear c51b0
            try clear c51b1
            try clear c53
            try clear c54
            try clear c56
            try clear c60
            try clear c61
            try clear c63
            try clear c65
            try clear c66
            try clear c68
            try clear c70
            try clear c71
            try clear c73
            try clear c75
            try clear c76
            try clear c78
            try clear c80
            try clear c82
            try clear c82b0
            try clear c82b1
            try clear c84
            try clear c84b0
            try clear c84b1
            try clear c85
            try clear c85b0
            try clear c85b1
            try clear c86
            try clear c87
            try clear c90
            try clear c91
            try clear c94
            try clear c95
            try clear hcz17_0
            try clear hcz17_1
            try clear hcz17_2
            try clear hcz19_0
            try clear hcz19_1
            try clear hcz19_2
            try clear hcz25_0
            try clear hcz25_1
            try clear hcz25_2
            try clear hcz30_0
            try clear hcz30_1
            try clear hcz30_2
            try clear hcz31_0
            try clear hcz31_1
            try clear hcz31_2
            try clear hcz33_0
            try clear hcz33_1
            try clear hcz33_2
            try clear hcz35_0
            try clear hcz35_1
            try clear hcz35_2
            try clear hcz37_0
            try clear hcz37_1
            try clear hcz37_2
            try clear hcz45_0
            try clear hcz45_1
            try clear hcz45_2
            try clear hcz47_0
            try clear hcz47_1
            try clear hcz47_2
            try clear hcz55_0
            try clear hcz55_1
            try clear hcz55_2
            try clear hcz57_0
            try clear hcz57_1
            try clear hcz57_2
            try clear hcz58_0
            try clear hcz58_1
            try clear hcz58_2
            try clear hcz62_0
            try clear hcz62_1
            try clear hcz62_2
            try clear hcz64_0
            try clear hcz64_1
            try clear hcz64_2
            try clear hcz67_0
            try clear hcz67_1
            try clear hcz67_2
            try clear hcz69_0
            try clear hcz69_1
            try clear hcz69_2
            try clear hcz72_0
            try clear hcz72_1
            try clear hcz72_2
            try clear hcz74_0
            try clear hcz74_1
            try clear hcz74_2
            try clear hcz77_0
            try clear hcz77_1
            try clear hcz77_2
            try clear hcz79_0
            try clear hcz79_1
            try clear hcz79_2
            try clear hcz88_0
            try clear hcz88_1
            try clear hcz88_2
            try clear hcz92_0
            try clear hcz92_1
            try clear hcz92_2
            try clear hcz96_0
            try clear hcz96_1
            try clear hcz96_2
            try clear hfz17_0
            try clear hfz17_1
            try clear hfz17_2
            try clear hfz19_0
            try clear hfz19_1
            try clear hfz19_2
            try clear hfz25_0
            try clear hfz25_1
            try clear hfz25_2
            try clear hfz30_0
            try clear hfz30_1
            try clear hfz30_2
            try clear hfz31_0
            try clear hfz31_1
            try clear hfz31_2
            try clear hfz33_0
            try clear hfz33_1
            try clear hfz33_2
            try clear hfz35_0
            try clear hfz35_1
            try clear hfz35_2
            try clear hfz37_0
            try clear hfz37_1
            try clear hfz37_2
            try clear hfz45_0
            try clear hfz45_1
            try clear hfz45_2
            try clear hfz47_0
            try clear hfz47_1
            try clear hfz47_2
            try clear hfz55_0
            try clear hfz55_1
            try clear hfz55_2
            try clear hfz57_0
            try clear hfz57_1
            try clear hfz57_2
            try clear hfz58_0
            try clear hfz58_1
            try clear hfz58_2
            try clear hfz62_0
            try clear hfz62_1
            try clear hfz62_2
            try clear hfz64_0
            try clear hfz64_1
            try clear hfz64_2
            try clear hfz67_0
            try clear hfz67_1
            try clear hfz67_2
            try clear hfz69_0
            try clear hfz69_1
            try clear hfz69_2
            try clear hfz72_0
            try clear hfz72_1
            try clear hfz72_2
            try clear hfz74_0
            try clear hfz74_1
            try clear hfz74_2
            try clear hfz77_0
            try clear hfz77_1
            try clear hfz77_2
            try clear hfz79_0
            try clear hfz79_1
            try clear hfz79_2
            try clear hfz88_0
            try clear hfz88_1
            try clear hfz88_2
            try clear hfz92_0
            try clear hfz92_1
            try clear hfz92_2
            try clear hfz96_0
            try clear hfz96_1
            try clear hfz96_2
            try clear p2
            obtain ⟨kq, HA, HJ80, BK248, BK258, BK263, HB⟩ := hcut
            cases kq with
            | zero => exact absurd HA.out (by simp [laws_FnDates.j1])
            | succ kj80 =>
              have H := HA.out
              clear HA
              simp only [laws_FnDates.j1] at H
              by_cases c98 : t250 = 0
              · rw [if_pos c98] at H
                have c98b0 : (t250 == 0) = true := beq_iff_eq.mpr c98
                have c98b1 : (t250 != 0) = false := bne_eq_false_iff_eq.mpr c98
                clear c98
                replace H := Option.bind_eq_some_iff.mp H
                obtain ⟨⟨t275, t276, t277, t278⟩, A990, H⟩ := H
                replace H : ((impl_DateOf.f kj80 (wrap64 (t249 + 1))).bind fun bt280 => (if t278 = 0 then (if (!(t275 == t245) || (!(t276 == t246) || (!(t277 == t247)))) = true then (laws_FnDates.j2 kj80 t264 bt280.2.2.2 true bt280.1 bt280.2.1 bt280.2.2.1) else (if t268 < 1 then (laws_FnDates.j2 kj80 t264 bt280.2.2.2 true bt280.1 bt280.2.1 bt280.2.2.1) else (laws_FnDates.j2 kj80 t264 bt280.2.2.2 (decide (t268 > 366)) bt280.1 bt280.2.1 bt280.2.2.1))) else (laws_FnDates.j2 kj80 t264 bt280.2.2.2 true bt280.1 bt280.2.1 bt280.2.2.1))) = some r := H
                have A99 := Aside0.mk A990
                clear A990
                replace H := Option.bind_eq_some_iff.mp H
                obtain ⟨⟨t280, t281, t282, t283⟩, A1000, H⟩ := H
                replace H : (if t278 = 0 then (if (!(t275 == t245) || (!(t276 == t246) || (!(t277 == t247)))) = true then (laws_FnDates.j2 kj80 t264 t283 true t280 t281 t282) else (if t268 < 1 then (laws_FnDates.j2 kj80 t264 t283 true t280 t281 t282) else (laws_FnDates.j2 kj80 t264 t283 (decide (t268 > 366)) t280 t281 t282))) else (laws_FnDates.j2 kj80 t264 t283 true t280 t281 t282)) = some r := H
                have A100 := Aside0.mk A1000
                clear A1000
                have HC101 := Aside0.mk H
                clear H
                go_upto_region 23 with (first | ((with_reducible refine gate_callee (f := 44) rfl ?_); refine goesL_ (some 138) rfl rfl Try.func44 (by kernel_rfl) rfl #[.int .i64 t249] rfl (by (try simp only [List.map_toArray, List.map_cons, List.map_nil]); first | done | rfl | (simp only [List.length_drop, List.length_take]; rfl)) ?_; (with_reducible refine (impl_DateOf.calls kj80 t249 t275 t276 t277 t278 _ A99.out).mono ?_); rintro e w102 ⟨rfl, hb⟩; refine ⟨_, rfl, ?_⟩; have n0_ := Aside0.mk (blk_below (g := gb248) (o := .cells #[.int .i64 t245, .int .i64 t246, .int .i64 t247] 37 (0, 0)) (by (with_reducible repeat (first | refine blk_drewN ?_ _ | refine blk_drew ?_ | refine blk_alloc ?_ _)); exact BK248.out) hb); have n1_ := Aside0.mk (blk_below (g := gb258) (o := .cells #[.int .i64 t254, .int .i64 t255, .int .i64 t256] 37 (0, 0)) (by (with_reducible repeat (first | refine blk_drewN ?_ _ | refine blk_drew ?_ | refine blk_alloc ?_ _)); exact BK258.out) hb); have n2_ := Aside0.mk (blk_below (g := gb263) (o := .cells #[.int .i64 t259, .int .i64 t260, .int .i64 t261] 37 (0, 0)) (by (with_reducible repeat (first | refine blk_drewN ?_ _ | refine blk_drew ?_ | refine blk_alloc ?_ _)); exact BK263.out) hb); have n3_ := Aside0.mk (below_step (by repeat (first | (with_reducible first | exact HB.out | apply below_alloc | apply pw_below_drewN | apply below_drew1 | refine below_set ?_ GE248.out | refine below_set ?_ GE258.out | refine below_set ?_ GE263.out) | exact HB.out)) hb); clear BK248; clear BK258; clear BK263; clear HB; have BK248 := n0_; have BK258 := n1_; have BK263 := n2_; have HB := n3_; clear n0_ n1_ n2_ n3_; (try clear hb); (try clear hb2); (try clear hk); (try clear hi)) | ((with_reducible refine gate_dst (N := 23) rfl ?_); refine box_event ?hg (N := 23) ?hd (cs := #[.int .i64 0, .int .i64 0, .int .i64 0]) (t := 37) ?hr ?_; (case hd => rfl); (case hg => rfl); (case hr => first | (go_simp; done) | (go_simp; rfl)); intro gb279 hg w103 hbox hb; have n0_ := Aside0.mk (blk_below (g := gb248) (o := .cells #[.int .i64 t245, .int .i64 t246, .int .i64 t247] 37 (0, 0)) (by (with_reducible repeat (first | refine blk_drewN ?_ _ | refine blk_drew ?_ | refine blk_alloc ?_ _)); exact BK248.out) hb); have n1_ := Aside0.mk (blk_below (g := gb258) (o := .cells #[.int .i64 t254, .int .i64 t255, .int .i64 t256] 37 (0, 0)) (by (with_reducible repeat (first | refine blk_drewN ?_ _ | refine blk_drew ?_ | refine blk_alloc ?_ _)); exact BK258.out) hb); have n2_ := Aside0.mk (blk_below (g := gb263) (o := .cells #[.int .i64 t259, .int .i64 t260, .int .i64 t261] 37 (0, 0)) (by (with_reducible repeat (first | refine blk_drewN ?_ _ | refine blk_drew ?_ | refine blk_alloc ?_ _)); exact BK263.out) hb); have n3_ := Aside0.mk (below_step (by repeat (first | (with_reducible first | exact HB.out | apply below_alloc | apply pw_below_drewN | apply below_drew1 | refine below_set ?_ GE248.out | refine below_set ?_ GE258.out | refine below_set ?_ GE263.out) | exact HB.out)) hb); have n4_ := Aside0.mk (hbox); have n5_ := Aside0.mk ((by rw [hg]; exact (below_size (by repeat (first | (with_reducible first | exact HB.out | apply below_alloc | apply pw_below_drewN | apply below_drew1 | refine below_set ?_ GE248.out | refine below_set ?_ GE258.out | refine below_set ?_ GE263.out) | exact HB.out))) : w.heap.size ≤ gb279)); have n6_ := Aside0.mk ((by rw [hg]; exact (below_size (by repeat (first | (with_reducible first | exact HB.out | apply below_alloc | apply pw_below_drewN | apply below_drew1 | refine below_set ?_ GE248.out | refine below_set ?_ GE258.out | refine below_set ?_ GE263.out) | exact HB.out))) : w.heap.size ≤ gb279)); have n7_ := Aside0.mk ((by rw [hg]; exact Nat.ne_of_lt (blk_lt (g := gb248) (o := .cells #[.int .i64 t245, .int .i64 t246, .int .i64 t247] 37 (0, 0)) (by (with_reducible repeat (first | refine blk_drewN ?_ _ | refine blk_drew ?_ | refine blk_alloc ?_ _)); exact BK248.out)) : gb248 ≠ gb279)); have n8_ := Aside0.mk ((by rw [hg]; exact Nat.ne_of_gt (blk_lt (g := gb248) (o := .cells #[.int .i64 t245, .int .i64 t246, .int .i64 t247] 37 (0, 0)) (by (with_reducible repeat (first | refine blk_drewN ?_ _ | refine blk_drew ?_ | refine blk_alloc ?_ _)); exact BK248.out)) : gb279 ≠ gb248)); have n9_ := Aside0.mk ((by rw [hg]; exact Nat.ne_of_lt (blk_lt (g := gb258) (o := .cells #[.int .i64 t254, .int .i64 t255, .int .i64 t256] 37 (0, 0)) (by (with_reducible repeat (first | refine blk_drewN ?_ _ | refine blk_drew ?_ | refine blk_alloc ?_ _)); exact BK258.out)) : gb258 ≠ gb279)); have n10_ := Aside0.mk ((by rw [hg]; exact Nat.ne_of_gt (blk_lt (g := gb258) (o := .cells #[.int .i64 t254, .int .i64 t255, .int .i64 t256] 37 (0, 0)) (by (with_reducible repeat (first | refine blk_drewN ?_ _ | refine blk_drew ?_ | refine blk_alloc ?_ _)); exact BK258.out)) : gb279 ≠ gb258)); have n11_ := Aside0.mk ((by rw [hg]; exact Nat.ne_of_lt (blk_lt (g := gb263) (o := .cells #[.int .i64 t259, .int .i64 t260, .int .i64 t261] 37 (0, 0)) (by (with_reducible repeat (first | refine blk_drewN ?_ _ | refine blk_drew ?_ | refine blk_alloc ?_ _)); exact BK263.out)) : gb263 ≠ gb279)); have n12_ := Aside0.mk ((by rw [hg]; exact Nat.ne_of_gt (blk_lt (g := gb263) (o := .cells #[.int .i64 t259, .int .i64 t260, .int .i64 t261] 37 (0, 0)) (by (with_reducible repeat (first | refine blk_drewN ?_ _ | refine blk_drew ?_ | refine blk_alloc ?_ _)); exact BK263.out)) : gb279 ≠ gb263)); clear BK248; clear BK258; clear BK263; clear HB; have BK248 := n0_; have BK258 := n1_; have BK263 := n2_; have HB := n3_; have BK279 := n4_; have GW279 := n5_; have GE279 := n6_; have NB248_279 := n7_; have NB279_248 := n8_; have NB258_279 := n9_; have NB279_258 := n10_; have NB263_279 := n11_; have NB279_263 := n12_; clear n0_ n1_ n2_ n3_ n4_ n5_ n6_ n7_ n8_ n9_ n10_ n11_ n12_; clear hb hbox hg; have hnb104 := NB279_248.out; have hnc104 := NB248_279.out; have hnb105 := NB279_258.out; have hnc105 := NB258_279.out; have hnb106 := NB279_263.out; have hnc106 := NB263_279.out; have hcz107_0 : w103.cell? ⟨gb279, 0, none⟩ = some (.int .i64 0) := (blk_cell BK279.out 0).trans rfl; have hcz107_1 : w103.cell? ⟨gb279, 1, none⟩ = some (.int .i64 0) := (blk_cell BK279.out 1).trans rfl; have hcz107_2 : w103.cell? ⟨gb279, 2, none⟩ = some (.int .i64 0) := (blk_cell BK279.out 2).trans rfl; have hfz107_0 := blk_frozen BK279.out 0; have hfz107_1 := blk_frozen BK279.out 1; have hfz107_2 := blk_frozen BK279.out 2) | ((with_reducible refine gate_callee (f := 44) rfl ?_); refine goesL_ (some 144) rfl rfl Try.func44 (by kernel_rfl) rfl #[.int .i64 (wrap64 (t249 + 1))] rfl (by (try simp only [List.map_toArray, List.map_cons, List.map_nil]); first | done | rfl | (simp only [List.length_drop, List.length_take]; rfl)) ?_; (with_reducible refine (impl_DateOf.calls kj80 (wrap64 (t249 + 1)) t280 t281 t282 t283 _ A100.out).mono ?_); rintro e w108 ⟨rfl, hb⟩; refine ⟨_, rfl, ?_⟩; have n0_ := Aside0.mk (blk_below (g := gb248) (o := .cells #[.int .i64 t245, .int .i64 t246, .int .i64 t247] 37 (0, 0)) (by (with_reducible repeat (first | refine blk_drewN ?_ _ | refine blk_drew ?_ | refine blk_alloc ?_ _)); refine blk_far ?_ NB248_279.out _; (with_reducible repeat (first | refine blk_drewN ?_ _ | refine blk_drew ?_ | refine blk_alloc ?_ _)); refine blk_far ?_ NB248_279.out _; (with_reducible repeat (first | refine blk_drewN ?_ _ | refine blk_drew ?_ | refine blk_alloc ?_ _)); refine blk_far ?_ NB248_279.out _; (with_reducible repeat (first | refine blk_drewN ?_ _ | refine blk_drew ?_ | refine blk_alloc ?_ _)); exact BK248.out) hb); have n1_ := Aside0.mk (blk_below (g := gb258) (o := .cells #[.int .i64 t254, .int .i64 t255, .int .i64 t256] 37 (0, 0)) (by (with_reducible repeat (first | refine blk_drewN ?_ _ | refine blk_drew ?_ | refine blk_alloc ?_ _)); refine blk_far ?_ NB258_279.out _; (with_reducible repeat (first | refine blk_drewN ?_ _ | refine blk_drew ?_ | refine blk_alloc ?_ _)); refine blk_far ?_ NB258_279.out _; (with_reducible repeat (first | refine blk_drewN ?_ _ | refine blk_drew ?_ | refine blk_alloc ?_ _)); refine blk_far ?_ NB258_279.out _; (with_reducible repeat (first | refine blk_drewN ?_ _ | refine blk_drew ?_ | refine blk_alloc ?_ _)); exact BK258.out) hb); have n2_ := Aside0.mk (blk_below (g := gb263) (o := .cells #[.int .i64 t259, .int .i64 t260, .int .i64 t261] 37 (0, 0)) (by (with_reducible repeat (first | refine blk_drewN ?_ _ | refine blk_drew ?_ | refine blk_alloc ?_ _)); refine blk_far ?_ NB263_279.out _; (with_reducible repeat (first | refine blk_drewN ?_ _ | refine blk_drew ?_ | refine blk_alloc ?_ _)); refine blk_far ?_ NB263_279.out _; (with_reducible repeat (first | refine blk_drewN ?_ _ | refine blk_drew ?_ | refine blk_alloc ?_ _)); refine blk_far ?_ NB263_279.out _; (with_reducible repeat (first | refine blk_drewN ?_ _ | refine blk_drew ?_ | refine blk_alloc ?_ _)); exact BK263.out) hb); have n3_ := Aside0.mk (blk_below (g := gb279) (o := .cells #[.int .i64 t275, .int .i64 t276, .int .i64 t277] 37 (0, 0)) (by (with_reducible repeat (first | refine blk_drewN ?_ _ | refine blk_drew ?_ | refine blk_alloc ?_ _)); refine blk_put (cs := #[.int .i64 t275, .int .i64 t276, .int .i64 0]) ?_ 2 _ rfl; (with_reducible repeat (first | refine blk_drewN ?_ _ | refine blk_drew ?_ | refine blk_alloc ?_ _)); refine blk_put (cs := #[.int .i64 t275, .int .i64 0, .int .i64 0]) ?_ 1 _ rfl; (with_reducible repeat (first | refine blk_drewN ?_ _ | refine blk_drew ?_ | refine blk_alloc ?_ _)); refine blk_put (cs := #[.int .i64 0, .int .i64 0, .int .i64 0]) ?_ 0 _ rfl; (with_reducible repeat (first | refine blk_drewN ?_ _ | refine blk_drew ?_ | refine blk_alloc ?_ _)); exact BK279.out) hb); have n4_ := Aside0.mk (below_step (by repeat (first | (with_reducible first | exact HB.out | apply below_alloc | apply pw_below_drewN | apply below_drew1 | refine below_set ?_ GE248.out | refine below_set ?_ GE258.out | refine below_set ?_ GE263.out | refine below_set ?_ GE279.out) | exact HB.out)) hb); clear BK248; clear BK258; clear BK263; clear BK279; clear HB; have BK248 := n0_; have BK258 := n1_; have BK263 := n2_; have BK279 := n3_; have HB := n4_; clear n0_ n1_ n2_ n3_ n4_; (try clear hb); (try clear hb2); (try clear hk); (try clear hi)) | ((with_reducible refine gate_dst (N := 25) rfl ?_); refine box_event ?hg (N := 25) ?hd (cs := #[.int .i64 0, .int .i64 0, .int .i64 0]) (t := 37) ?hr ?_; (case hd => rfl); (case hg => rfl); (case hr => first | (go_simp; done) | (go_simp; rfl)); intro gb284 hg w109 hbox hb; have n0_ := Aside0.mk (blk_below (g := gb248) (o := .cells #[.int .i64 t245, .int .i64 t246, .int .i64 t247] 37 (0, 0)) (by (with_reducible repeat (first | refine blk_drewN ?_ _ | refine blk_drew ?_ | refine blk_alloc ?_ _)); exact BK248.out) hb); have n1_ := Aside0.mk (blk_below (g := gb258) (o := .cells #[.int .i64 t254, .int .i64 t255, .int .i64 t256] 37 (0, 0)) (by (with_reducible repeat (first | refine blk_drewN ?_ _ | refine blk_drew ?_ | refine blk_alloc ?_ _)); exact BK258.out) hb); have n2_ := Aside0.mk (blk_below (g := gb263) (o := .cells #[.int .i64 t259, .int .i64 t260, .int .i64 t261] 37 (0, 0)) (by (with_reducible repeat (first | refine blk_drewN ?_ _ | refine blk_drew ?_ | refine blk_alloc ?_ _)); exact BK263.out) hb); have n3_ := Aside0.mk (blk_below (g := gb279) (o := .cells #[.int .i64 t275, .int .i64 t276, .int .i64 t277] 37 (0, 0)) (by (with_reducible repeat (first | refine blk_drewN ?_ _ | refine blk_drew ?_ | refine blk_alloc ?_ _)); exact BK279.out) hb); have n4_ := Aside0.mk (below_step (by repeat (first | (with_reducible first | exact HB.out | apply below_alloc | apply pw_below_drewN | apply below_drew1 | refine below_set ?_ GE248.out | refine below_set ?_ GE258.out | refine below_set ?_ GE263.out | refine below_set ?_ GE279.out) | exact HB.out)) hb); have n5_ := Aside0.mk (hbox); have n6_ := Aside0.mk ((by rw [hg]; exact (below_size (by repeat (first | (with_reducible first | exact HB.out | apply below_alloc | apply pw_below_drewN | apply below_drew1 | refine below_set ?_ GE248.out | refine below_set ?_ GE258.out | refine below_set ?_ GE263.out | refine below_set ?_ GE279.out) | exact HB.out))) : w.heap.size ≤ gb284)); have n7_ := Aside0.mk ((by rw [hg]; exact (below_size (by repeat (first | (with_reducible first | exact HB.out | apply below_alloc | apply pw_below_drewN | apply below_drew1 | refine below_set ?_ GE248.out | refine below_set ?_ GE258.out | refine below_set ?_ GE263.out | refine below_set ?_ GE279.out) | exact HB.out))) : w.heap.size ≤ gb284)); have n8_ := Aside0.mk ((by rw [hg]; exact Nat.ne_of_lt (blk_lt (g := gb248) (o := .cells #[.int .i64 t245, .int .i64 t246, .int .i64 t247] 37 (0, 0)) (by (with_reducible repeat (first | refine blk_drewN ?_ _ | refine blk_drew ?_ | refine blk_alloc ?_ _)); exact BK248.out)) : gb248 ≠ gb284)); have n9_ := Aside0.mk ((by rw [hg]; exact Nat.ne_of_gt (blk_lt (g := gb248) (o := .cells #[.int .i64 t245, .int .i64 t246, .int .i64 t247] 37 (0, 0)) (by (with_reducible repeat (first | refine blk_drewN ?_ _ | refine blk_drew ?_ | refine blk_alloc ?_ _)); exact BK248.out)) : gb284 ≠ gb248)); have n10_ := Aside0.mk ((by rw [hg]; exact Nat.ne_of_lt (blk_lt (g := gb258) (o := .cells #[.int .i64 t254, .int .i64 t255, .int .i64 t256] 37 (0, 0)) (by (with_reducible repeat (first | refine blk_drewN ?_ _ | refine blk_drew ?_ | refine blk_alloc ?_ _)); exact BK258.out)) : gb258 ≠ gb284)); have n11_ := Aside0.mk ((by rw [hg]; exact Nat.ne_of_gt (blk_lt (g := gb258) (o := .cells #[.int .i64 t254, .int .i64 t255, .int .i64 t256] 37 (0, 0)) (by (with_reducible repeat (first | refine blk_drewN ?_ _ | refine blk_drew ?_ | refine blk_alloc ?_ _)); exact BK258.out)) : gb284 ≠ gb258)); have n12_ := Aside0.mk ((by rw [hg]; exact Nat.ne_of_lt (blk_lt (g := gb263) (o := .cells #[.int .i64 t259, .int .i64 t260, .int .i64 t261] 37 (0, 0)) (by (with_reducible repeat (first | refine blk_drewN ?_ _ | refine blk_drew ?_ | refine blk_alloc ?_ _)); exact BK263.out)) : gb263 ≠ gb284)); have n13_ := Aside0.mk ((by rw [hg]; exact Nat.ne_of_gt (blk_lt (g := gb263) (o := .cells #[.int .i64 t259, .int .i64 t260, .int .i64 t261] 37 (0, 0)) (by (with_reducible repeat (first | refine blk_drewN ?_ _ | refine blk_drew ?_ | refine blk_alloc ?_ _)); exact BK263.out)) : gb284 ≠ gb263)); have n14_ := Aside0.mk ((by rw [hg]; exact Nat.ne_of_lt (blk_lt (g := gb279) (o := .cells #[.int .i64 t275, .int .i64 t276, .int .i64 t277] 37 (0, 0)) (by (with_reducible repeat (first | refine blk_drewN ?_ _ | refine blk_drew ?_ | refine blk_alloc ?_ _)); exact BK279.out)) : gb279 ≠ gb284)); have n15_ := Aside0.mk ((by rw [hg]; exact Nat.ne_of_gt (blk_lt (g := gb279) (o := .cells #[.int .i64 t275, .int .i64 t276, .int .i64 t277] 37 (0, 0)) (by (with_reducible repeat (first | refine blk_drewN ?_ _ | refine blk_drew ?_ | refine blk_alloc ?_ _)); exact BK279.out)) : gb284 ≠ gb279)); clear BK248; clear BK258; clear BK263; clear BK279; clear HB; have BK248 := n0_; have BK258 := n1_; have BK263 := n2_; have BK279 := n3_; have HB := n4_; have BK284 := n5_; have GW284 := n6_; have GE284 := n7_; have NB248_284 := n8_; have NB284_248 := n9_; have NB258_284 := n10_; have NB284_258 := n11_; have NB263_284 := n12_; have NB284_263 := n13_; have NB279_284 := n14_; have NB284_279 := n15_; clear n0_ n1_ n2_ n3_ n4_ n5_ n6_ n7_ n8_ n9_ n10_ n11_ n12_ n13_ n14_ n15_; clear hb hbox hg; have hnb110 := NB284_248.out; have hnc110 := NB248_284.out; have hnb111 := NB284_258.out; have hnc111 := NB258_284.out; have hnb112 := NB284_263.out; have hnc112 := NB263_284.out; have hnb113 := NB284_279.out; have hnc113 := NB279_284.out; have hcz114_0 : w109.cell? ⟨gb284, 0, none⟩ = some (.int .i64 0) := (blk_cell BK284.out 0).trans rfl; have hcz114_1 : w109.cell? ⟨gb284, 1, none⟩ = some (.int .i64 0) := (blk_cell BK284.out 1).trans rfl; have hcz114_2 : w109.cell? ⟨gb284, 2, none⟩ = some (.int .i64 0) := (blk_cell BK284.out 2).trans rfl; have hfz114_0 := blk_frozen BK284.out 0; have hfz114_1 := blk_frozen BK284.out 1; have hfz114_2 := blk_frozen BK284.out 2))
                (try simp only [Act.put, List.setIfInBounds_toArray, List.set_cons_zero, List.set_cons_succ])
                go_cut [161] (fun v161 wc => ∃ (kq : Nat) (x161_100 : Bool), v161 = .bool x161_100 ∧ Aside0 (laws_FnDates.j2 kq t264 t283 x161_100 t280 t281 t282 = some r) ∧ Aside0 (kq ≤ kj80) ∧ Aside0 (wc.heap[gb248]? = some (.cells #[.int .i64 t245, .int .i64 t246, .int .i64 t247] 37 (0, 0))) ∧ Aside0 (wc.heap[gb258]? = some (.cells #[.int .i64 t254, .int .i64 t255, .int .i64 t256] 37 (0, 0))) ∧ Aside0 (wc.heap[gb263]? = some (.cells #[.int .i64 t259, .int .i64 t260, .int .i64 t261] 37 (0, 0))) ∧ Aside0 (wc.heap[gb279]? = some (.cells #[.int .i64 t275, .int .i64 t276, .int .i64 t277] 37 (0, 0))) ∧ Aside0 (wc.heap[gb284]? = some (.cells #[.int .i64 t280, .int .i64 t281, .int .i64 t282] 37 (0, 0))) ∧ Aside0 (Below w.heap.size w wc))
                case first =>
                  have H := HC101.out
                  clear HC101
                  by_cases c115 : t278 = 0
                  · rw [if_pos c115] at H
                    have c115b0 : (t278 == 0) = true := beq_iff_eq.mpr c115
                    have c115b1 : (t278 != 0) = false := bne_eq_false_iff_eq.mpr c115
                    clear c115
                    (first | rw [c115b0] | (simp only [i64_w, i32_w]; rw [c115b0]) | skip)
                    by_cases c116 : (!(t275 == t245) || (!(t276 == t246) || (!(t277 == t247)))) = true
                    · rw [if_pos c116] at H
                      have c116b0 : (!(t275 == t245) || (!(t276 == t246) || (!(t277 == t247)))) = true := c116
                      clear c116
                      have H' := Aside0.mk H
                      clear H
                      have hnb117 := NB279_248.out
                      have hnc117 := NB248_279.out
                      have hnb118 := NB279_258.out
                      have hnc118 := NB258_279.out
                      have hnb119 := NB279_263.out
                      have hnc119 := NB263_279.out
                      have hnb120 := NB279_284.out
                      have hnc120 := NB284_279.out
                      have hcz121_0 : w109.cell? ⟨gb279, 0, none⟩ = some (.int .i64 t275) := (blk_cell BK279.out 0).trans rfl
                      have hcz121_1 : w109.cell? ⟨gb279, 1, none⟩ = some (.int .i64 t276) := (blk_cell BK279.out 1).trans rfl
                      have hcz121_2 : w109.cell? ⟨gb279, 2, none⟩ = some (.int .i64 t277) := (blk_cell BK279.out 2).trans rfl
                      have hfz121_0 := blk_frozen BK279.out 0
                      have hfz121_1 := blk_frozen BK279.out 1
                      have hfz121_2 := blk_frozen BK279.out 2
                      have hnb122 := NB248_258.out
                      have hnc122 := NB258_248.out
                      have hnb123 := NB248_263.out
                      have hnc123 := NB263_248.out
                      have hnb124 := NB248_284.out
                      have hnc124 := NB284_248.out
                      have hcz125_0 : w109.cell? ⟨gb248, 0, none⟩ = some (.int .i64 t245) := (blk_cell BK248.out 0).trans rfl
                      have hcz125_1 : w109.cell? ⟨gb248, 1, none⟩ = some (.int .i64 t246) := (blk_cell BK248.out 1).trans rfl
                      have hcz125_2 : w109.cell? ⟨gb248, 2, none⟩ = some (.int .i64 t247) := (blk_cell BK248.out 2).trans rfl
                      have hfz125_0 := blk_frozen BK248.out 0
                      have hfz125_1 := blk_frozen BK248.out 1
                      have hfz125_2 := blk_frozen BK248.out 2
                      go_wp2
                      go_meet
                      case rel => exact ⟨_, (true), (by first | rfl | (simp; done) | (simp [*]; done)), H', ⟨by have := HJ13.out; have := HJ80.out; first | omega | exact Nat.le_refl _⟩, ⟨by (with_reducible repeat (first | refine blk_drewN ?_ _ | refine blk_drew ?_ | refine blk_alloc ?_ _)); refine blk_far ?_ NB248_284.out _; (with_reducible repeat (first | refine blk_drewN ?_ _ | refine blk_drew ?_ | refine blk_alloc ?_ _)); refine blk_far ?_ NB248_284.out _; (with_reducible repeat (first | refine blk_drewN ?_ _ | refine blk_drew ?_ | refine blk_alloc ?_ _)); refine blk_far ?_ NB248_284.out _; (with_reducible repeat (first | refine blk_drewN ?_ _ | refine blk_drew ?_ | refine blk_alloc ?_ _)); exact BK248.out⟩, ⟨by (with_reducible repeat (first | refine blk_drewN ?_ _ | refine blk_drew ?_ | refine blk_alloc ?_ _)); refine blk_far ?_ NB258_284.out _; (with_reducible repeat (first | refine blk_drewN ?_ _ | refine blk_drew ?_ | refine blk_alloc ?_ _)); refine blk_far ?_ NB258_284.out _; (with_reducible repeat (first | refine blk_drewN ?_ _ | refine blk_drew ?_ | refine blk_alloc ?_ _)); refine blk_far ?_ NB258_284.out _; (with_reducible repeat (first | refine blk_drewN ?_ _ | refine blk_drew ?_ | refine blk_alloc ?_ _)); exact BK258.out⟩, ⟨by (with_reducible repeat (first | refine blk_drewN ?_ _ | refine blk_drew ?_ | refine blk_alloc ?_ _)); refine blk_far ?_ NB263_284.out _; (with_reducible repeat (first | refine blk_drewN ?_ _ | refine blk_drew ?_ | refine blk_alloc ?_ _)); refine blk_far ?_ NB263_284.out _; (with_reducible repeat (first | refine blk_drewN ?_ _ | refine blk_drew ?_ | refine blk_alloc ?_ _)); refine blk_far ?_ NB263_284.out _; (with_reducible repeat (first | refine blk_drewN ?_ _ | refine blk_drew ?_ | refine blk_alloc ?_ _)); exact BK263.out⟩, ⟨by (with_reducible repeat (first | refine blk_drewN ?_ _ | refine blk_drew ?_ | refine blk_alloc ?_ _)); refine blk_far ?_ NB279_284.out _; (with_reducible repeat (first | refine blk_drewN ?_ _ | refine blk_drew ?_ | refine blk_alloc ?_ _)); refine blk_far ?_ NB279_284.out _; (with_reducible repeat (first | refine blk_drewN ?_ _ | refine blk_drew ?_ | refine blk_alloc ?_ _)); refine blk_far ?_ NB279_284.out _; (with_reducible repeat (first | refine blk_drewN ?_ _ | refine blk_drew ?_ | refine blk_alloc ?_ _)); exact BK279.out⟩, ⟨by (with_reducible repeat (first | refine blk_drewN ?_ _ | refine blk_drew ?_ | refine blk_alloc ?_ _)); refine blk_put (cs := #[.int .i64 t280, .int .i64 t281, .int .i64 0]) ?_ 2 _ rfl; (with_reducible repeat (first | refine blk_drewN ?_ _ | refine blk_drew ?_ | refine blk_alloc ?_ _)); refine blk_put (cs := #[.int .i64 t280, .int .i64 0, .int .i64 0]) ?_ 1 _ rfl; (with_reducible repeat (first | refine blk_drewN ?_ _ | refine blk_drew ?_ | refine blk_alloc ?_ _)); refine blk_put (cs := #[.int .i64 0, .int .i64 0, .int .i64 0]) ?_ 0 _ rfl; (with_reducible repeat (first | refine blk_drewN ?_ _ | refine blk_drew ?_ | refine blk_alloc ?_ _)); exact BK284.out⟩, ⟨by repeat (first | (with_reducible first | exact HB.out | apply below_alloc | apply pw_below_drewN | apply below_drew1 | refine below_set ?_ GE248.out | refine below_set ?_ GE258.out | refine below_set ?_ GE263.out | refine below_set ?_ GE279.out | refine below_set ?_ GE284.out) | exact HB.out)⟩⟩
                    · rw [if_neg c116] at H
                      have c116b0 : (!(t275 == t245) || (!(t276 == t246) || (!(t277 == t247)))) = false := by simpa using c116
                      clear c116
                      by_cases c126 : t268 < 1
                      · rw [if_pos c126] at H
                        have c126b0 : decide (t268 < 1) = true := decide_eq_true c126
                        clear c126
                        have H' := Aside0.mk H
                        clear H
                        have hnb127 := NB279_248.out
                        have hnc127 := NB248_279.out
                        have hnb128 := NB279_258.out
                        have hnc128 := NB258_279.out
                        have hnb129 := NB279_263.out
                        have hnc129 := NB263_279.out
                        have hnb130 := NB279_284.out
                        have hnc130 := NB284_279.out
                        have hcz131_0 : w109.cell? ⟨gb279, 0, none⟩ = some (.int .i64 t275) := (blk_cell BK279.out 0).trans rfl
                        have hcz131_1 : w109.cell? ⟨gb279, 1, none⟩ = some (.int .i64 t276) := (blk_cell BK279.out 1).trans rfl
                        have hcz131_2 : w109.cell? ⟨gb279, 2, none⟩ = some (.int .i64 t277) := (blk_cell BK279.out 2).trans rfl
                        have hfz131_0 := blk_frozen BK279.out 0
                        have hfz131_1 := blk_frozen BK279.out 1
                        have hfz131_2 := blk_frozen BK279.out 2
                        have hnb132 := NB248_258.out
                        have hnc132 := NB258_248.out
                        have hnb133 := NB248_263.out
                        have hnc133 := NB263_248.out
                        have hnb134 := NB248_284.out
                        have hnc134 := NB284_248.out
                        have hcz135_0 : w109.cell? ⟨gb248, 0, none⟩ = some (.int .i64 t245) := (blk_cell BK248.out 0).trans rfl
                        have hcz135_1 : w109.cell? ⟨gb248, 1, none⟩ = some (.int .i64 t246) := (blk_cell BK248.out 1).trans rfl
                        have hcz135_2 : w109.cell? ⟨gb248, 2, none⟩ = some (.int .i64 t247) := (blk_cell BK248.out 2).trans rfl
                        have hfz135_0 := blk_frozen BK248.out 0
                        have hfz135_1 := blk_frozen BK248.out 1
                        have hfz135_2 := blk_frozen BK248.out 2
                        go_wp2
                        go_meet
                        case rel => exact ⟨_, (true), (by first | rfl | (simp; done) | (simp [*]; done)), H', ⟨by have := HJ13.out; have := HJ80.out; first | omega | exact Nat.le_refl _⟩, ⟨by (with_reducible repeat (first | refine blk_drewN ?_ _ | refine blk_drew ?_ | refine blk_alloc ?_ _)); refine blk_far ?_ NB248_284.out _; (with_reducible repeat (first | refine blk_drewN ?_ _ | refine blk_drew ?_ | refine blk_alloc ?_ _)); refine blk_far ?_ NB248_284.out _; (with_reducible repeat (first | refine blk_drewN ?_ _ | refine blk_drew ?_ | refine blk_alloc ?_ _)); refine blk_far ?_ NB248_284.out _; (with_reducible repeat (first | refine blk_drewN ?_ _ | refine blk_drew ?_ | refine blk_alloc ?_ _)); exact BK248.out⟩, ⟨by (with_reducible repeat (first | refine blk_drewN ?_ _ | refine blk_drew ?_ | refine blk_alloc ?_ _)); refine blk_far ?_ NB258_284.out _; (with_reducible repeat (first | refine blk_drewN ?_ _ | refine blk_drew ?_ | refine blk_alloc ?_ _)); refine blk_far ?_ NB258_284.out _; (with_reducible repeat (first | refine blk_drewN ?_ _ | refine blk_drew ?_ | refine blk_alloc ?_ _)); refine blk_far ?_ NB258_284.out _; (with_reducible repeat (first | refine blk_drewN ?_ _ | refine blk_drew ?_ | refine blk_alloc ?_ _)); exact BK258.out⟩, ⟨by (with_reducible repeat (first | refine blk_drewN ?_ _ | refine blk_drew ?_ | refine blk_alloc ?_ _)); refine blk_far ?_ NB263_284.out _; (with_reducible repeat (first | refine blk_drewN ?_ _ | refine blk_drew ?_ | refine blk_alloc ?_ _)); refine blk_far ?_ NB263_284.out _; (with_reducible repeat (first | refine blk_drewN ?_ _ | refine blk_drew ?_ | refine blk_alloc ?_ _)); refine blk_far ?_ NB263_284.out _; (with_reducible repeat (first | refine blk_drewN ?_ _ | refine blk_drew ?_ | refine blk_alloc ?_ _)); exact BK263.out⟩, ⟨by (with_reducible repeat (first | refine blk_drewN ?_ _ | refine blk_drew ?_ | refine blk_alloc ?_ _)); refine blk_far ?_ NB279_284.out _; (with_reducible repeat (first | refine blk_drewN ?_ _ | refine blk_drew ?_ | refine blk_alloc ?_ _)); refine blk_far ?_ NB279_284.out _; (with_reducible repeat (first | refine blk_drewN ?_ _ | refine blk_drew ?_ | refine blk_alloc ?_ _)); refine blk_far ?_ NB279_284.out _; (with_reducible repeat (first | refine blk_drewN ?_ _ | refine blk_drew ?_ | refine blk_alloc ?_ _)); exact BK279.out⟩, ⟨by (with_reducible repeat (first | refine blk_drewN ?_ _ | refine blk_drew ?_ | refine blk_alloc ?_ _)); refine blk_put (cs := #[.int .i64 t280, .int .i64 t281, .int .i64 0]) ?_ 2 _ rfl; (with_reducible repeat (first | refine blk_drewN ?_ _ | refine blk_drew ?_ | refine blk_alloc ?_ _)); refine blk_put (cs := #[.int .i64 t280, .int .i64 0, .int .i64 0]) ?_ 1 _ rfl; (with_reducible repeat (first | refine blk_drewN ?_ _ | refine blk_drew ?_ | refine blk_alloc ?_ _)); refine blk_put (cs := #[.int .i64 0, .int .i64 0, .int .i64 0]) ?_ 0 _ rfl; (with_reducible repeat (first | refine blk_drewN ?_ _ | refine blk_drew ?_ | refine blk_alloc ?_ _)); exact BK284.out⟩, ⟨by repeat (first | (with_reducible first | exact HB.out | apply below_alloc | apply pw_below_drewN | apply below_drew1 | refine below_set ?_ GE248.out | refine below_set ?_ GE258.out | refine below_set ?_ GE263.out | refine below_set ?_ GE279.out | refine below_set ?_ GE284.out) | exact HB.out)⟩⟩
                      · rw [if_neg c126] at H
                        have c126b0 : decide (t268 < 1) = false := decide_eq_false c126
                        clear c126
                        have H' := Aside0.mk H
                        clear H
                        have hnb136 := NB279_248.out
                        have hnc136 := NB248_279.out
                        have hnb137 := NB279_258.out
                        have hnc137 := NB258_279.out
                        have hnb138 := NB279_263.out
                        have hnc138 := NB263_279.out
                        have hnb139 := NB279_284.out
                        have hnc139 := NB284_279.out
                        have hcz140_0 : w109.cell? ⟨gb279, 0, none⟩ = some (.int .i64 t275) := (blk_cell BK279.out 0).trans rfl
                        have hcz140_1 : w109.cell? ⟨gb279, 1, none⟩ = some (.int .i64 t276) := (blk_cell BK279.out 1).trans rfl
                        have hcz140_2 : w109.cell? ⟨gb279, 2, none⟩ = some (.int .i64 t277) := (blk_cell BK279.out 2).trans rfl
                        have hfz140_0 := blk_frozen BK279.out 0
                        have hfz140_1 := blk_frozen BK279.out 1
                        have hfz140_2 := blk_frozen BK279.out 2
                        have hnb141 := NB248_258.out
                        have hnc141 := NB258_248.out
                        have hnb142 := NB248_263.out
                        have hnc142 := NB263_248.out
                        have hnb143 := NB248_284.out
                        have hnc143 := NB284_248.out
                        have hcz144_0 : w109.cell? ⟨gb248, 0, none⟩ = some (.int .i64 t245) := (blk_cell BK248.out 0).trans rfl
                        have hcz144_1 : w109.cell? ⟨gb248, 1, none⟩ = some (.int .i64 t246) := (blk_cell BK248.out 1).trans rfl
                        have hcz144_2 : w109.cell? ⟨gb248, 2, none⟩ = some (.int .i64 t247) := (blk_cell BK248.out 2).trans rfl
                        have hfz144_0 := blk_frozen BK248.out 0
                        have hfz144_1 := blk_frozen BK248.out 1
                        have hfz144_2 := blk_frozen BK248.out 2
                        go_wp2
                        go_meet
                        case rel => exact ⟨_, (decide (t268 > 366)), (by first | rfl | (simp; done) | (simp [*]; done)), H', ⟨by have := HJ13.out; have := HJ80.out; first | omega | exact Nat.le_refl _⟩, ⟨by (with_reducible repeat (first | refine blk_drewN ?_ _ | refine blk_drew ?_ | refine blk_alloc ?_ _)); refine blk_far ?_ NB248_284.out _; (with_reducible repeat (first | refine blk_drewN ?_ _ | refine blk_drew ?_ | refine blk_alloc ?_ _)); refine blk_far ?_ NB248_284.out _; (with_reducible repeat (first | refine blk_drewN ?_ _ | refine blk_drew ?_ | refine blk_alloc ?_ _)); refine blk_far ?_ NB248_284.out _; (with_reducible repeat (first | refine blk_drewN ?_ _ | refine blk_drew ?_ | refine blk_alloc ?_ _)); exact BK248.out⟩, ⟨by (with_reducible repeat (first | refine blk_drewN ?_ _ | refine blk_drew ?_ | refine blk_alloc ?_ _)); refine blk_far ?_ NB258_284.out _; (with_reducible repeat (first | refine blk_drewN ?_ _ | refine blk_drew ?_ | refine blk_alloc ?_ _)); refine blk_far ?_ NB258_284.out _; (with_reducible repeat (first | refine blk_drewN ?_ _ | refine blk_drew ?_ | refine blk_alloc ?_ _)); refine blk_far ?_ NB258_284.out _; (with_reducible repeat (first | refine blk_drewN ?_ _ | refine blk_drew ?_ | refine blk_alloc ?_ _)); exact BK258.out⟩, ⟨by (with_reducible repeat (first | refine blk_drewN ?_ _ | refine blk_drew ?_ | refine blk_alloc ?_ _)); refine blk_far ?_ NB263_284.out _; (with_reducible repeat (first | refine blk_drewN ?_ _ | refine blk_drew ?_ | refine blk_alloc ?_ _)); refine blk_far ?_ NB263_284.out _; (with_reducible repeat (first | refine blk_drewN ?_ _ | refine blk_drew ?_ | refine blk_alloc ?_ _)); refine blk_far ?_ NB263_284.out _; (with_reducible repeat (first | refine blk_drewN ?_ _ | refine blk_drew ?_ | refine blk_alloc ?_ _)); exact BK263.out⟩, ⟨by (with_reducible repeat (first | refine blk_drewN ?_ _ | refine blk_drew ?_ | refine blk_alloc ?_ _)); refine blk_far ?_ NB279_284.out _; (with_reducible repeat (first | refine blk_drewN ?_ _ | refine blk_drew ?_ | refine blk_alloc ?_ _)); refine blk_far ?_ NB279_284.out _; (with_reducible repeat (first | refine blk_drewN ?_ _ | refine blk_drew ?_ | refine blk_alloc ?_ _)); refine blk_far ?_ NB279_284.out _; (with_reducible repeat (first | refine blk_drewN ?_ _ | refine blk_drew ?_ | refine blk_alloc ?_ _)); exact BK279.out⟩, ⟨by (with_reducible repeat (first | refine blk_drewN ?_ _ | refine blk_drew ?_ | refine blk_alloc ?_ _)); refine blk_put (cs := #[.int .i64 t280, .int .i64 t281, .int .i64 0]) ?_ 2 _ rfl; (with_reducible repeat (first | refine blk_drewN ?_ _ | refine blk_drew ?_ | refine blk_alloc ?_ _)); refine blk_put (cs := #[.int .i64 t280, .int .i64 0, .int .i64 0]) ?_ 1 _ rfl; (with_reducible repeat (first | refine blk_drewN ?_ _ | refine blk_drew ?_ | refine blk_alloc ?_ _)); refine blk_put (cs := #[.int .i64 0, .int .i64 0, .int .i64 0]) ?_ 0 _ rfl; (with_reducible repeat (first | refine blk_drewN ?_ _ | refine blk_drew ?_ | refine blk_alloc ?_ _)); exact BK284.out⟩, ⟨by repeat (first | (with_reducible first | exact HB.out | apply below_alloc | apply pw_below_drewN | apply below_drew1 | refine below_set ?_ GE248.out | refine below_set ?_ GE258.out | refine below_set ?_ GE263.out | refine below_set ?_ GE279.out | refine below_set ?_ GE284.out) | exact HB.out)⟩⟩
                  · rw [if_neg c115] at H
                    have c115b0 : (t278 == 0) = false := beq_eq_false_iff_ne.mpr c115
                    have c115b1 : (t278 != 0) = true := bne_iff_ne.mpr c115
                    (first | rw [c115b0] | (simp only [i64_w, i32_w]; rw [c115b0]) | skip)
                    have H' := Aside0.mk H
                    clear H
                    go_wp2
                    go_meet
                    case rel => exact ⟨_, (true), (by first | rfl | (simp; done) | (simp [*]; done)), H', ⟨by have := HJ13.out; have := HJ80.out; first | omega | exact Nat.le_refl _⟩, ⟨by (with_reducible repeat (first | refine blk_drewN ?_ _ | refine blk_drew ?_ | refine blk_alloc ?_ _)); refine blk_far ?_ NB248_284.out _; (with_reducible repeat (first | refine blk_drewN ?_ _ | refine blk_drew ?_ | refine blk_alloc ?_ _)); refine blk_far ?_ NB248_284.out _; (with_reducible repeat (first | refine blk_drewN ?_ _ | refine blk_drew ?_ | refine blk_alloc ?_ _)); refine blk_far ?_ NB248_284.out _; (with_reducible repeat (first | refine blk_drewN ?_ _ | refine blk_drew ?_ | refine blk_alloc ?_ _)); exact BK248.out⟩, ⟨by (with_reducible repeat (first | refine blk_drewN ?_ _ | refine blk_drew ?_ | refine blk_alloc ?_ _)); refine blk_far ?_ NB258_284.out _; (with_reducible repeat (first | refine blk_drewN ?_ _ | refine blk_drew ?_ | refine blk_alloc ?_ _)); refine blk_far ?_ NB258_284.out _; (with_reducible repeat (first | refine blk_drewN ?_ _ | refine blk_drew ?_ | refine blk_alloc ?_ _)); refine blk_far ?_ NB258_284.out _; (with_reducible repeat (first | refine blk_drewN ?_ _ | refine blk_drew ?_ | refine blk_alloc ?_ _)); exact BK258.out⟩, ⟨by (with_reducible repeat (first | refine blk_drewN ?_ _ | refine blk_drew ?_ | refine blk_alloc ?_ _)); refine blk_far ?_ NB263_284.out _; (with_reducible repeat (first | refine blk_drewN ?_ _ | refine blk_drew ?_ | refine blk_alloc ?_ _)); refine blk_far ?_ NB263_284.out _; (with_reducible repeat (first | refine blk_drewN ?_ _ | refine blk_drew ?_ | refine blk_alloc ?_ _)); refine blk_far ?_ NB263_284.out _; (with_reducible repeat (first | refine blk_drewN ?_ _ | refine blk_drew ?_ | refine blk_alloc ?_ _)); exact BK263.out⟩, ⟨by (with_reducible repeat (first | refine blk_drewN ?_ _ | refine blk_drew ?_ | refine blk_alloc ?_ _)); refine blk_far ?_ NB279_284.out _; (with_reducible repeat (first | refine blk_drewN ?_ _ | refine blk_drew ?_ | refine blk_alloc ?_ _)); refine blk_far ?_ NB279_284.out _; (with_reducible repeat (first | refine blk_drewN ?_ _ | refine blk_drew ?_ | refine blk_alloc ?_ _)); refine blk_far ?_ NB279_284.out _; (with_reducible repeat (first | refine blk_drewN ?_ _ | refine blk_drew ?_ | refine blk_alloc ?_ _)); exact BK279.out⟩, ⟨by (with_reducible repeat (first | refine blk_drewN ?_ _ | refine blk_drew ?_ | refine blk_alloc ?_ _)); refine blk_put (cs := #[.int .i64 t280, .int .i64 t281, .int .i64 0]) ?_ 2 _ rfl; (with_reducible repeat (first | refine blk_drewN ?_ _ | refine blk_drew ?_ | refine blk_alloc ?_ _)); refine blk_put (cs := #[.int .i64 t280, .int .i64 0, .int .i64 0]) ?_ 1 _ rfl; (with_reducible repeat (first | refine blk_drewN ?_ _ | refine blk_drew ?_ | refine blk_alloc ?_ _)); refine blk_put (cs := #[.int .i64 0, .int .i64 0, .int .i64 0]) ?_ 0 _ rfl; (with_reducible repeat (first | refine blk_drewN ?_ _ | refine blk_drew ?_ | refine blk_alloc ?_ _)); exact BK284.out⟩, ⟨by repeat (first | (with_reducible first | exact HB.out | apply below_alloc | apply pw_below_drewN | apply below_drew1 | refine below_set ?_ GE248.out | refine below_set ?_ GE258.out | refine below_set ?_ GE263.out | refine below_set ?_ GE279.out | refine below_set ?_ GE284.out) | exact HB.out)⟩⟩
                case rest =>
                  clear HC101
                  try clear c1
                  try clear c2
                  try clear p2
                  try clear c3
                  try clear c4
                  try clear c5
                  try clear c6
                  try clear p6
                  try clear c7
                  try clear c8
                  try clear c9
                  try clear c10
                  try clear c11
                  try clear c12
                  try clear c13
                  try clear c14
                  try clear c24
                  try clear c28
                  try clear c29
                  try clear c39
                  try clear c39b0
                  try clear c39b1
                  try clear c40
                  try clear c40b0
                  try clear c40b1
                  try clear c41
                  try clear c41b0
                  try clear c41b1
                  try clear c42
                  try clear c42b0
                  try clear c43
                  try clear c44
                  try clear c45
                  try clear c46
                  try clear c47
                  try clear c48
                  try clear c48b0
                  try clear c48b1
                  try clear c49
                  try clear c49b0
                  try clear c49b1
                  try clear c50
                  try clear c50b0
                  try clear c50b1
                  try clear c51
                  try clear c51b0
                  try clear c51b1
                  try clear c53
                  try clear c54
                  try clear c56
                  try clear c60
                  try clear c61
                  try clear c63
                  try clear p64
                  try clear c65
                  try clear c66
                  try clear c68
                  try clear c70
                  try clear c71
                  try clear c73
                  try clear c75
                  try clear c76
                  try clear c78
                  try clear c80
                  try clear c82
                  try clear c82b0
                  try clear c82b1
                  try clear c84
                  try clear c84b0
                  try clear c84b1
                  try clear c85
                  try clear c85b0
                  try clear c85b1
                  try clear c86
                  try clear c87
                  try clear c90
                  try clear c91
                  try clear c94
                  try clear c95
                  try clear c98
                  try clear c98b0
                  try clear c98b1
                  try clear c104
                  try clear c105
                  try clear c106
                  try clear c110
                  try clear c111
                  try clear c112
                  try clear c113
                  try clear c115
                  try clear c115b0
                  try clear c115b1
                  try clear c116
                  try clear c116b0
                  try clear c117
                  try clear c118
                  try clear c119
                  try clear c120
                  try clear c122
                  try clear c123
                  try clear c124
                  try clear c126
                  try clear c126b0
                  try clear c127
                  try clear c128
                  try clear c129
                  try clear c130
                  try clear c132
                  try clear c133
                  try clear c134
                  try clear c136
                  try clear c137
                  try clear c138
                  try clear c139
                  try clear c141
                  try clear c142
                  try clear c143
                  try clear hcz107_0
                  try clear hcz107_1
                  try clear hcz107_2
                  try clear hcz114_0
                  try clear hcz114_1
                  try clear hcz114_2
                  try clear hcz121_0
                  try clear hcz121_1
                  try clear hcz121_2
                  try clear hcz125_0
                  try clear hcz125_1
                  try clear hcz125_2
                  try clear hcz131_0
                  try clear hcz131_1
                  try clear hcz131_2
                  try clear hcz135_0
                  try clear hcz135_1
                  try clear hcz135_2
                  try clear hcz140_0
                  try clear hcz140_1
                  try clear hcz140_2
                  try clear hcz144_0
                  try clear hcz144_1
                  try clear hcz144_2
                  try clear hcz17_0
                  try clear hcz17_1
                  try clear hcz17_2
                  try clear hcz19_0
                  try clear hcz19_1
                  try clear hcz19_2
                  try clear hcz25_0
                  try clear hcz25_1
                  try clear hcz25_2
                  try clear hcz30_0
                  try clear hcz30_1
                  try clear hcz30_2
                  try clear hcz31_0
                  try clear hcz31_1
                  try clear hcz31_2
                  try clear hcz33_0
                  try clear hcz33_1
                  try clear hcz33_2
                  try clear hcz35_0
                  try clear hcz35_1
                  try clear hcz35_2
                  try clear hcz37_0
                  try clear hcz37_1
                  try clear hcz37_2
                  try clear hcz45_0
                  try clear hcz45_1
                  try clear hcz45_2
                  try clear hcz47_0
                  try clear hcz47_1
                  try clear hcz47_2
                  try clear hcz55_0
                  try clear hcz55_1
                  try clear hcz55_2
                  try clear hcz57_0
                  try clear hcz57_1
                  try clear hcz57_2
                  try clear hcz58_0
                  try clear hcz58_1
                  try clear hcz58_2
                  try clear hcz62_0
                  try clear hcz62_1
                  try clear hcz62_2
                  try clear hcz64_0
                  try clear hcz64_1
                  try clear hcz64_2
                  try clear hcz67_0
                  try clear hcz67_1
                  try clear hcz67_2
                  try clear hcz69_0
                  try clear hcz69_1
                  try clear hcz69_2
                  try clear hcz72_0
                  try clear hcz72_1
                  try clear hcz72_2
                  try clear hcz74_0
                  try clear hcz74_1
                  try clear hcz74_2
                  try clear hcz77_0
                  try clear hcz77_1
                  try clear hcz77_2
                  try clear hcz79_0
                  try clear hcz79_1
                  try clear hcz79_2
                  try clear hcz88_0
                  try clear hcz88_1
                  try clear hcz88_2
                  try clear hcz92_0
                  try clear hcz92_1
                  try clear hcz92_2
                  try clear hcz96_0
                  try clear hcz96_1
                  try clear hcz96_2
                  try clear hfz107_0
                  try clear hfz107_1
                  try clear hfz107_2
                  try clear hfz114_0
                  try clear hfz114_1
                  try clear hfz114_2
                  try clear hfz121_0
                  try clear hfz121_1
                  try clear hfz121_2
                  try clear hfz125_0
                  try clear hfz125_1
                  try clear hfz125_2
                  try clear hfz131_0
                  try clear hfz131_1
                  try clear hfz131_2
                  try clear hfz135_0
                  try clear hfz135_1
                  try clear hfz135_2
                  try clear hfz140_0
                  try clear hfz140_1
                  try clear hfz140_2
                  try clear hfz144_0
                  try clear hfz144_1
                  try clear hfz144_2
                  try clear hfz17_0
                  try clear hfz17_1
                  try clear hfz17_2
                  try clear hfz19_0
                  try clear hfz19_1
                  try clear hfz19_2
                  try clear hfz25_0
                  try clear hfz25_1
                  try clear hfz25_2
                  try clear hfz30_0
                  try clear hfz30_1
                  try clear hfz30_2
                  try clear hfz31_0
                  try clear hfz31_1
                  try clear hfz31_2
                  try clear hfz33_0
                  try clear hfz33_1
                  try clear hfz33_2
                  try clear hfz35_0
                  try clear hfz35_1
                  try clear hfz35_2
                  try clear hfz37_0
                  try clear hfz37_1
                  try clear hfz37_2
                  try clear hfz45_0
                  try clear hfz45_1
                  try clear hfz45_2
                  try clear hfz47_0
                  try clear hfz47_1
                  try clear hfz47_2
                  try clear hfz55_0
                  try clear hfz55_1
                  try clear hfz55_2
                  try clear hfz57_0
                  try clear hfz57_1
                  try clear hfz57_2
                  try clear hfz58_0
                  try clear hfz58_1
                  try clear hfz58_2
                  try clear hfz62_0
                  try clear hfz62_1
                  try clear hfz62_2
                  try clear hfz64_0
                  try clear hfz64_1
                  try clear hfz64_2
                  try clear hfz67_0
                  try clear hfz67_1
                  try clear hfz67_2
                  try clear hfz69_0
                  try clear hfz69_1
                  try clear hfz69_2
                  try clear hfz72_0
                  try clear hfz72_1
                  try clear hfz72_2
                  try clear hfz74_0
                  try clear hfz74_1
                  try clear hfz74_2
                  try clear hfz77_0
                  try clear hfz77_1
                  try clear hfz77_2
                  try clear hfz79_0
                  try clear hfz79_1
                  try clear hfz79_2
                  try clear hfz88_0
                  try clear hfz88_1
                  try clear hfz88_2
                  try clear hfz92_0
                  try clear hfz92_1
                  try clear hfz92_2
                  try clear hfz96_0
                  try clear hfz96_1
                  try clear hfz96_2
                  try clear p2
                  obtain ⟨kq, x161_100, rfl, HA, HJ100, BK248, BK258, BK263, BK279, BK284, HB⟩ := hcut
                  cases kq with
                  | zero => exact absurd HA.out (by simp [laws_FnDates.j2])
                  | succ kj100 =>
                    have H := HA.out
                    clear HA
                    simp only [laws_FnDates.j2] at H
                    by_cases c145 : x161_100 = true
                    · subst c145
                      have H1 : (some false) = some r := by rw [if_pos rfl] at H; exact H
                      clear H
                      have H := H1
                      clear H1
                      obtain rfl := Option.some.inj H
                      go_wp2
                      go_ret
                      exact ⟨by first | rfl | (simp [errW_none, errW_some] <;> rfl) | (simp [*, errW_none, errW_some] <;> rfl), by repeat (first | (with_reducible first | exact HB.out | apply below_alloc | apply pw_below_drewN | apply below_drew1 | refine below_set ?_ GE248.out | refine below_set ?_ GE258.out | refine below_set ?_ GE263.out | refine below_set ?_ GE279.out | refine below_set ?_ GE284.out) | exact HB.out)⟩
                    · replace c145 := Bool.eq_false_iff.mpr c145
                      subst c145
                      have H1 : (if t283 = 0 then ((impl_WeekdayOf.f kj100 t280 t281 t282).bind fun bt285 => (if bt285.2 = 0 then (some (bt285.1 == (Int.tmod (wrap64 (t264 + 1)) 7))) else (some false))) else (some (t283 == 4))) = some r := by rw [if_neg (show ¬ (false = true) by decide)] at H; exact H
                      clear H
                      have H := H1
                      clear H1
                      by_cases c146 : t283 = 0
                      · rw [if_pos c146] at H
                        have c146b0 : (t283 == 0) = true := beq_iff_eq.mpr c146
                        have c146b1 : (t283 != 0) = false := bne_eq_false_iff_eq.mpr c146
                        clear c146
                        replace H := Option.bind_eq_some_iff.mp H
                        obtain ⟨⟨t285, t286⟩, A1470, H⟩ := H
                        replace H : (if t286 = 0 then (some (t285 == (Int.tmod (wrap64 (t264 + 1)) 7))) else (some false)) = some r := H
                        have A147 := Aside0.mk A1470
                        clear A1470
                        by_cases c148 : t286 = 0
                        · rw [if_pos c148] at H
                          have c148b0 : (t286 == 0) = true := beq_iff_eq.mpr c148
                          have c148b1 : (t286 != 0) = false := bne_eq_false_iff_eq.mpr c148
                          clear c148
                          obtain rfl := Option.some.inj H
                          have hnb149 := NB284_248.out
                          have hnc149 := NB248_284.out
                          have hnb150 := NB284_258.out
                          have hnc150 := NB258_284.out
                          have hnb151 := NB284_263.out
                          have hnc151 := NB263_284.out
                          have hnb152 := NB284_279.out
                          have hnc152 := NB279_284.out
                          have hcz153_0 : wc.cell? ⟨gb284, 0, none⟩ = some (.int .i64 t280) := (blk_cell BK284.out 0).trans rfl
                          have hcz153_1 : wc.cell? ⟨gb284, 1, none⟩ = some (.int .i64 t281) := (blk_cell BK284.out 1).trans rfl
                          have hcz153_2 : wc.cell? ⟨gb284, 2, none⟩ = some (.int .i64 t282) := (blk_cell BK284.out 2).trans rfl
                          have hfz153_0 := blk_frozen BK284.out 0
                          have hfz153_1 := blk_frozen BK284.out 1
                          have hfz153_2 := blk_frozen BK284.out 2
                          go_wp2_with (first | ((with_reducible refine gate_callee (f := 46) rfl ?_); refine goesL_ (some 168) rfl rfl Try.func46 (by kernel_rfl) rfl #[.agg #[.int .i64 t280, .int .i64 t281, .int .i64 t282]] rfl (by (try simp only [List.map_toArray, List.map_cons, List.map_nil]); first | done | rfl | (simp only [List.length_drop, List.length_take]; rfl)) ?_; (with_reducible refine (impl_WeekdayOf.calls kj100 t280 t281 t282 t285 t286 _ A147.out).mono ?_); rintro e w154 ⟨rfl, hb⟩; refine ⟨_, rfl, ?_⟩; have n0_ := Aside0.mk (blk_below (g := gb248) (o := .cells #[.int .i64 t245, .int .i64 t246, .int .i64 t247] 37 (0, 0)) (by (with_reducible repeat (first | refine blk_drewN ?_ _ | refine blk_drew ?_ | refine blk_alloc ?_ _)); exact BK248.out) hb); have n1_ := Aside0.mk (blk_below (g := gb258) (o := .cells #[.int .i64 t254, .int .i64 t255, .int .i64 t256] 37 (0, 0)) (by (with_reducible repeat (first | refine blk_drewN ?_ _ | refine blk_drew ?_ | refine blk_alloc ?_ _)); exact BK258.out) hb); have n2_ := Aside0.mk (blk_below (g := gb263) (o := .cells #[.int .i64 t259, .int .i64 t260, .int .i64 t261] 37 (0, 0)) (by (with_reducible repeat (first | refine blk_drewN ?_ _ | refine blk_drew ?_ | refine blk_alloc ?_ _)); exact BK263.out) hb); have n3_ := Aside0.mk (blk_below (g := gb279) (o := .cells #[.int .i64 t275, .int .i64 t276, .int .i64 t277] 37 (0, 0)) (by (with_reducible repeat (first | refine blk_drewN ?_ _ | refine blk_drew ?_ | refine blk_alloc ?_ _)); exact BK279.out) hb); have n4_ := Aside0.mk (blk_below (g := gb284) (o := .cells #[.int .i64 t280, .int .i64 t281, .int .i64 t282] 37 (0, 0)) (by (with_reducible repeat (first | refine blk_drewN ?_ _ | refine blk_drew ?_ | refine blk_alloc ?_ _)); exact BK284.out) hb); have n5_ := Aside0.mk (below_step (by repeat (first | (with_reducible first | exact HB.out | apply below_alloc | apply pw_below_drewN | apply below_drew1 | refine below_set ?_ GE248.out | refine below_set ?_ GE258.out | refine below_set ?_ GE263.out | refine below_set ?_ GE279.out | refine below_set ?_ GE284.out) | exact HB.out)) hb); clear BK248; clear BK258; clear BK263; clear BK279; clear BK284; clear HB; have BK248 := n0_; have BK258 := n1_; have BK263 := n2_; have BK279 := n3_; have BK284 := n4_; have HB := n5_; clear n0_ n1_ n2_ n3_ n4_ n5_; (try clear hb); (try clear hb2); (try clear hk); (try clear hi)))
                          go_ret
                          exact ⟨by first | rfl | (simp [errW_none, errW_some] <;> rfl) | (simp [*, errW_none, errW_some] <;> rfl), by repeat (first | (with_reducible first | exact HB.out | apply below_alloc | apply pw_below_drewN | apply below_drew1 | refine below_set ?_ GE248.out | refine below_set ?_ GE258.out | refine below_set ?_ GE263.out | refine below_set ?_ GE279.out | refine below_set ?_ GE284.out) | exact HB.out)⟩
                        · rw [if_neg c148] at H
                          have c148b0 : (t286 == 0) = false := beq_eq_false_iff_ne.mpr c148
                          have c148b1 : (t286 != 0) = true := bne_iff_ne.mpr c148
                          obtain rfl := Option.some.inj H
                          have hnb155 := NB284_248.out
                          have hnc155 := NB248_284.out
                          have hnb156 := NB284_258.out
                          have hnc156 := NB258_284.out
                          have hnb157 := NB284_263.out
                          have hnc157 := NB263_284.out
                          have hnb158 := NB284_279.out
                          have hnc158 := NB279_284.out
                          have hcz159_0 : wc.cell? ⟨gb284, 0, none⟩ = some (.int .i64 t280) := (blk_cell BK284.out 0).trans rfl
                          have hcz159_1 : wc.cell? ⟨gb284, 1, none⟩ = some (.int .i64 t281) := (blk_cell BK284.out 1).trans rfl
                          have hcz159_2 : wc.cell? ⟨gb284, 2, none⟩ = some (.int .i64 t282) := (blk_cell BK284.out 2).trans rfl
                          have hfz159_0 := blk_frozen BK284.out 0
                          have hfz159_1 := blk_frozen BK284.out 1
                          have hfz159_2 := blk_frozen BK284.out 2
                          go_wp2_with (first | ((with_reducible refine gate_callee (f := 46) rfl ?_); refine goesL_ (some 168) rfl rfl Try.func46 (by kernel_rfl) rfl #[.agg #[.int .i64 t280, .int .i64 t281, .int .i64 t282]] rfl (by (try simp only [List.map_toArray, List.map_cons, List.map_nil]); first | done | rfl | (simp only [List.length_drop, List.length_take]; rfl)) ?_; (with_reducible refine (impl_WeekdayOf.calls kj100 t280 t281 t282 t285 t286 _ A147.out).mono ?_); rintro e w160 ⟨rfl, hb⟩; refine ⟨_, rfl, ?_⟩; have n0_ := Aside0.mk (blk_below (g := gb248) (o := .cells #[.int .i64 t245, .int .i64 t246, .int .i64 t247] 37 (0, 0)) (by (with_reducible repeat (first | refine blk_drewN ?_ _ | refine blk_drew ?_ | refine blk_alloc ?_ _)); exact BK248.out) hb); have n1_ := Aside0.mk (blk_below (g := gb258) (o := .cells #[.int .i64 t254, .int .i64 t255, .int .i64 t256] 37 (0, 0)) (by (with_reducible repeat (first | refine blk_drewN ?_ _ | refine blk_drew ?_ | refine blk_alloc ?_ _)); exact BK258.out) hb); have n2_ := Aside0.mk (blk_below (g := gb263) (o := .cells #[.int .i64 t259, .int .i64 t260, .int .i64 t261] 37 (0, 0)) (by (with_reducible repeat (first | refine blk_drewN ?_ _ | refine blk_drew ?_ | refine blk_alloc ?_ _)); exact BK263.out) hb); have n3_ := Aside0.mk (blk_below (g := gb279) (o := .cells #[.int .i64 t275, .int .i64 t276, .int .i64 t277] 37 (0, 0)) (by (with_reducible repeat (first | refine blk_drewN ?_ _ | refine blk_drew ?_ | refine blk_alloc ?_ _)); exact BK279.out) hb); have n4_ := Aside0.mk (blk_below (g := gb284) (o := .cells #[.int .i64 t280, .int .i64 t281, .int .i64 t282] 37 (0, 0)) (by (with_reducible repeat (first | refine blk_drewN ?_ _ | refine blk_drew ?_ | refine blk_alloc ?_ _)); exact BK284.out) hb); have n5_ := Aside0.mk (below_step (by repeat (first | (with_reducible first | exact HB.out | apply below_alloc | apply pw_below_drewN | apply below_drew1 | refine below_set ?_ GE248.out | refine below_set ?_ GE258.out | refine below_set ?_ GE263.out | refine below_set ?_ GE279.out | refine below_set ?_ GE284.out) | exact HB.out)) hb); clear BK248; clear BK258; clear BK263; clear BK279; clear BK284; clear HB; have BK248 := n0_; have BK258 := n1_; have BK263 := n2_; have BK279 := n3_; have BK284 := n4_; have HB := n5_; clear n0_ n1_ n2_ n3_ n4_ n5_; (try clear hb); (try clear hb2); (try clear hk); (try clear hi)))
                          go_ret
                          exact ⟨by first | rfl | (simp [errW_none, errW_some] <;> rfl) | (simp [*, errW_none, errW_some] <;> rfl), by repeat (first | (with_reducible first | exact HB.out | apply below_alloc | apply pw_below_drewN | apply below_drew1 | refine below_set ?_ GE248.out | refine below_set ?_ GE258.out | refine below_set ?_ GE263.out | refine below_set ?_ GE279.out | refine below_set ?_ GE284.out) | exact HB.out)⟩
                      · rw [if_neg c146] at H
                        have c146b0 : (t283 == 0) = false := beq_eq_false_iff_ne.mpr c146
                        have c146b1 : (t283 != 0) = true := bne_iff_ne.mpr c146
                        obtain rfl := Option.some.inj H
                        go_wp2
                        go_ret
                        exact ⟨by first | rfl | (simp [errW_none, errW_some] <;> rfl) | (simp [*, errW_none, errW_some] <;> rfl), by repeat (first | (with_reducible first | exact HB.out | apply below_alloc | apply pw_below_drewN | apply below_drew1 | refine below_set ?_ GE248.out | refine below_set ?_ GE258.out | refine below_set ?_ GE263.out | refine below_set ?_ GE279.out | refine below_set ?_ GE284.out) | exact HB.out)⟩
              · rw [if_neg c98] at H
                have c98b0 : (t250 == 0) = false := beq_eq_false_iff_ne.mpr c98
                have c98b1 : (t250 != 0) = true := bne_iff_ne.mpr c98
                obtain rfl := Option.some.inj H
                go_wp2
                go_ret
                exact ⟨by first | rfl | (simp [errW_none, errW_some] <;> rfl) | (simp [*, errW_none, errW_some] <;> rfl), by repeat (first | (with_reducible first | exact HB.out | apply below_alloc | apply pw_below_drewN | apply below_drew1 | refine below_set ?_ GE248.out | refine below_set ?_ GE258.out | refine below_set ?_ GE263.out) | exact HB.out)⟩

/-- THE ONE PURE STATEMENT of laws_FnDates: yours. -/
def laws_FnDates.Pure : Prop := ∀ (l0 : List Int), l0.length ≤ maxLen → l0.length * 1 ≤ 140737488351232 → (∀ x ∈ l0, (Lit.int .u8 x).wf = true) → ∃ k, laws_FnDates.f k l0 = some true
theorem laws_FnDates.walk (P : laws_FnDates.Pure) (a0 : Option Addr) (len0 cap0 : Nat) (z0 : List Int) (w : World) (w0 : (a0 = none ∧ len0 = 0 ∧ cap0 = 0 ∧ z0 = []) ∨ ∃ x, a0 = some x ∧ len0 ≤ cap0 ∧ cap0 ≤ maxLen ∧ z0.length = cap0 ∧ (∀ i, i < z0.length → w.cell? (x.add i) = some (.int .u8 (z0.getD i 0))) ∧ ∀ n ∈ z0, (Lit.int .u8 n).wf = true) (y0 : len0 * 1 ≤ 140737488351232) :
    Calls Try.prog 7 #[.slice a0 len0 cap0] w fun e w' => e = .returned (.bool true) ∧ Below w.heap.size w w' := by
  obtain ⟨l0, rfl, hr0, hm0, hw0, hc0⟩ := ReadsInt.ofRowC w0
  obtain ⟨k, h⟩ := P l0 hm0 y0 hw0
  refine (laws_FnDates.calls k _ _ l0 true w (Kd.C_of_reads (d := (0 : Int)) (h1 := fun _ => rfl) hr0) hc0 h).mono ?_
  rintro e w' ⟨rfl, hd⟩
  exact ⟨rfl, hd⟩

end Go.Proofs.Ytcnaocjhfgnphaa.PFnDates
