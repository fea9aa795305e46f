-- The machine's side of the law FnVectorSums: functions and their walks, made by q.py out of the kit's own print.
import Derived.Test.YtcnaocjhfgnphaaQFnVectorSumsx0
import Derived.Test.YtcnaocjhfgnphaaQFnVectorSumsx1
import Derived.Test.YtcnaocjhfgnphaaQFnVectorSumsx2
import Derived.Test.YtcnaocjhfgnphaaQFnVectorSumsx4
import Derived.Test.YtcnaocjhfgnphaaQFnVectorSumsx5
import Derived.Test.YtcnaocjhfgnphaaQFnVectorSumsx6
import Derived.Test.YtcnaocjhfgnphaaQFnVectorSumsx7
import Derived.Test.YtcnaocjhfgnphaaQFnVectorSumsx8
namespace Go.Proofs.Ytcnaocjhfgnphaa.PFnVectorSums
open Go.RowKit Go.Proofs.YtcnaocjhfgnphaaW.PrintWords Go.Proofs.YtcnaocjhfgnphaaW.PrintLast Go.Proofs.YtcnaocjhfgnphaaW.PrintMore
attribute [local go_sem] max2_int min2_int max_two min_two max_three min_three max_four min_four   -- for this text's walks alone
set_option linter.unusedVariables false
set_option linter.unusedSimpArgs false

attribute [local go_sem high] eqA44
/-! ### laws_FnVectorSums: function 8 -/
mutual
def laws_FnVectorSums.j0 : Nat → Int → Int → Bool → Int → Int → Int → Int → Int → Int → Int → Int → Int → Int → Int → Int → Int → Int → Int → Int → Int → Int → Int → Int → Int → Int → Int → Int → Option (Bool)
  | 0, _, _, _, _, _, _, _, _, _, _, _, _, _, _, _, _, _, _, _, _, _, _, _, _, _, _, _ => none
  | k + 1, x6, x12, x72, x465000, x465001, x465002, x465003, x465004, x465005, x466000, x466001, x466002, x466003, x466004, x466005, x474000, x474001, x474002, x474003, x474004, x474005, x491000, x491001, x491002, x491003, x491004, x491005 => if x72 = true then (some false) else (if x12 = 0 then ((impl_ScaleVector.f k x491000 x491001 x491002 x491003 x491004 x491005 1000000 1000000).bind fun bt508 => (if bt508.2.2.2.2.2.2 = 0 then (laws_FnVectorSums.j1 k x6 ((!(bt508.1 == x491000) || (!(bt508.2.1 == x491001))) || ((!(bt508.2.2.1 == x491002) || (!(bt508.2.2.2.1 == x491003))) || ((!(bt508.2.2.2.2.1 == x491004) || (!(bt508.2.2.2.2.2.1 == x491005)))))) x465000 x465001 x465002 x465003 x465004 x465005 x466000 x466001 x466002 x466003 x466004 x466005 x474000 x474001 x474002 x474003 x474004 x474005) else (laws_FnVectorSums.j1 k x6 true x465000 x465001 x465002 x465003 x465004 x465005 x466000 x466001 x466002 x466003 x466004 x466005 x474000 x474001 x474002 x474003 x474004 x474005))) else (if x6 = 0 then ((impl_AddVectors.f k x466000 x466001 x466002 x466003 x466004 x466005 x465000 x465001 x465002 x465003 x465004 x465005).bind fun bt524 => (if bt524.2.2.2.2.2.2 = 0 then (some ((bt524.1 == x474000 && (bt524.2.1 == x474001)) && ((bt524.2.2.1 == x474002 && (bt524.2.2.2.1 == x474003)) && ((bt524.2.2.2.2.1 == x474004 && (bt524.2.2.2.2.2.1 == x474005)))))) else (some false))) else (some true)))
def laws_FnVectorSums.j1 : Nat → Int → Bool → Int → Int → Int → Int → Int → Int → Int → Int → Int → Int → Int → Int → Int → Int → Int → Int → Int → Int → Option (Bool)
  | 0, _, _, _, _, _, _, _, _, _, _, _, _, _, _, _, _, _, _, _, _ => none
  | k + 1, x6, x87, x465000, x465001, x465002, x465003, x465004, x465005, x466000, x466001, x466002, x466003, x466004, x466005, x474000, x474001, x474002, x474003, x474004, x474005 => if x87 = true then (some false) else (if x6 = 0 then ((impl_AddVectors.f k x466000 x466001 x466002 x466003 x466004 x466005 x465000 x465001 x465002 x465003 x465004 x465005).bind fun bt516 => (if bt516.2.2.2.2.2.2 = 0 then (some ((bt516.1 == x474000 && (bt516.2.1 == x474001)) && ((bt516.2.2.1 == x474002 && (bt516.2.2.2.1 == x474003)) && ((bt516.2.2.2.2.1 == x474004 && (bt516.2.2.2.2.2.1 == x474005)))))) else (some false))) else (some true))
end
def laws_FnVectorSums.f (k : Nat) (l0 : List Int) : Option (Bool) := (laws_big.f l0).bind fun t451 => (if t451 = true then (some true) else ((spec_DrawAddVectors.f k l0).bind fun bt452 => ((impl_AddVectors.f k bt452.1 bt452.2.1 bt452.2.2.1 bt452.2.2.2.1 bt452.2.2.2.2.1 bt452.2.2.2.2.2.1 bt452.2.2.2.2.2.2.1 bt452.2.2.2.2.2.2.2.1 bt452.2.2.2.2.2.2.2.2.1 bt452.2.2.2.2.2.2.2.2.2.1 bt452.2.2.2.2.2.2.2.2.2.2.1 bt452.2.2.2.2.2.2.2.2.2.2.2).bind fun bt466 => ((spec_AddVectors.f k bt452.1 bt452.2.1 bt452.2.2.1 bt452.2.2.2.1 bt452.2.2.2.2.1 bt452.2.2.2.2.2.1 bt452.2.2.2.2.2.2.1 bt452.2.2.2.2.2.2.2.1 bt452.2.2.2.2.2.2.2.2.1 bt452.2.2.2.2.2.2.2.2.2.1 bt452.2.2.2.2.2.2.2.2.2.2.1 bt452.2.2.2.2.2.2.2.2.2.2.2).bind fun bt474 => ((spec_DrawScaleVector.f k l0).bind fun bt482 => ((impl_ScaleVector.f k bt482.1 bt482.2.1 bt482.2.2.1 bt482.2.2.2.1 bt482.2.2.2.2.1 bt482.2.2.2.2.2.1 bt482.2.2.2.2.2.2.1 bt482.2.2.2.2.2.2.2).bind fun bt492 => ((spec_ScaleVector.f k bt482.1 bt482.2.1 bt482.2.2.1 bt482.2.2.2.1 bt482.2.2.2.2.1 bt482.2.2.2.2.2.1 bt482.2.2.2.2.2.2.1 bt482.2.2.2.2.2.2.2).bind fun bt500 => (if bt466.2.2.2.2.2.2 = bt474.2.2.2.2.2.2 then (if ((!(bt466.1 == bt474.1) || (!(bt466.2.1 == bt474.2.1))) || ((!(bt466.2.2.1 == bt474.2.2.1) || (!(bt466.2.2.2.1 == bt474.2.2.2.1))) || ((!(bt466.2.2.2.2.1 == bt474.2.2.2.2.1) || (!(bt466.2.2.2.2.2.1 == bt474.2.2.2.2.2.1)))))) = true then (laws_FnVectorSums.j0 k bt466.2.2.2.2.2.2 bt492.2.2.2.2.2.2 true bt452.1 bt452.2.1 bt452.2.2.1 bt452.2.2.2.1 bt452.2.2.2.2.1 bt452.2.2.2.2.2.1 bt452.2.2.2.2.2.2.1 bt452.2.2.2.2.2.2.2.1 bt452.2.2.2.2.2.2.2.2.1 bt452.2.2.2.2.2.2.2.2.2.1 bt452.2.2.2.2.2.2.2.2.2.2.1 bt452.2.2.2.2.2.2.2.2.2.2.2 bt466.1 bt466.2.1 bt466.2.2.1 bt466.2.2.2.1 bt466.2.2.2.2.1 bt466.2.2.2.2.2.1 bt482.1 bt482.2.1 bt482.2.2.1 bt482.2.2.2.1 bt482.2.2.2.2.1 bt482.2.2.2.2.2.1) else (if bt492.2.2.2.2.2.2 = bt500.2.2.2.2.2.2 then (laws_FnVectorSums.j0 k bt466.2.2.2.2.2.2 bt492.2.2.2.2.2.2 ((!(bt492.1 == bt500.1) || (!(bt492.2.1 == bt500.2.1))) || ((!(bt492.2.2.1 == bt500.2.2.1) || (!(bt492.2.2.2.1 == bt500.2.2.2.1))) || ((!(bt492.2.2.2.2.1 == bt500.2.2.2.2.1) || (!(bt492.2.2.2.2.2.1 == bt500.2.2.2.2.2.1)))))) bt452.1 bt452.2.1 bt452.2.2.1 bt452.2.2.2.1 bt452.2.2.2.2.1 bt452.2.2.2.2.2.1 bt452.2.2.2.2.2.2.1 bt452.2.2.2.2.2.2.2.1 bt452.2.2.2.2.2.2.2.2.1 bt452.2.2.2.2.2.2.2.2.2.1 bt452.2.2.2.2.2.2.2.2.2.2.1 bt452.2.2.2.2.2.2.2.2.2.2.2 bt466.1 bt466.2.1 bt466.2.2.1 bt466.2.2.2.1 bt466.2.2.2.2.1 bt466.2.2.2.2.2.1 bt482.1 bt482.2.1 bt482.2.2.1 bt482.2.2.2.1 bt482.2.2.2.2.1 bt482.2.2.2.2.2.1) else (laws_FnVectorSums.j0 k bt466.2.2.2.2.2.2 bt492.2.2.2.2.2.2 true bt452.1 bt452.2.1 bt452.2.2.1 bt452.2.2.2.1 bt452.2.2.2.2.1 bt452.2.2.2.2.2.1 bt452.2.2.2.2.2.2.1 bt452.2.2.2.2.2.2.2.1 bt452.2.2.2.2.2.2.2.2.1 bt452.2.2.2.2.2.2.2.2.2.1 bt452.2.2.2.2.2.2.2.2.2.2.1 bt452.2.2.2.2.2.2.2.2.2.2.2 bt466.1 bt466.2.1 bt466.2.2.1 bt466.2.2.2.1 bt466.2.2.2.2.1 bt466.2.2.2.2.2.1 bt482.1 bt482.2.1 bt482.2.2.1 bt482.2.2.2.1 bt482.2.2.2.2.1 bt482.2.2.2.2.2.1))) else (laws_FnVectorSums.j0 k bt466.2.2.2.2.2.2 bt492.2.2.2.2.2.2 true bt452.1 bt452.2.1 bt452.2.2.1 bt452.2.2.2.1 bt452.2.2.2.2.1 bt452.2.2.2.2.2.1 bt452.2.2.2.2.2.2.1 bt452.2.2.2.2.2.2.2.1 bt452.2.2.2.2.2.2.2.2.1 bt452.2.2.2.2.2.2.2.2.2.1 bt452.2.2.2.2.2.2.2.2.2.2.1 bt452.2.2.2.2.2.2.2.2.2.2.2 bt466.1 bt466.2.1 bt466.2.2.1 bt466.2.2.2.1 bt466.2.2.2.2.1 bt466.2.2.2.2.2.1 bt482.1 bt482.2.1 bt482.2.2.1 bt482.2.2.2.1 bt482.2.2.2.2.1 bt482.2.2.2.2.2.1)))))))))
theorem laws_FnVectorSums.mono_l : ∀ k, (∀ y0 y1 y2 y3 y4 y5 y6 y7 y8 y9 y10 y11 y12 y13 y14 y15 y16 y17 y18 y19 y20 y21 y22 y23 y24 y25 y26, LeO (laws_FnVectorSums.j0 k y0 y1 y2 y3 y4 y5 y6 y7 y8 y9 y10 y11 y12 y13 y14 y15 y16 y17 y18 y19 y20 y21 y22 y23 y24 y25 y26) (laws_FnVectorSums.j0 (k + 1) y0 y1 y2 y3 y4 y5 y6 y7 y8 y9 y10 y11 y12 y13 y14 y15 y16 y17 y18 y19 y20 y21 y22 y23 y24 y25 y26)) ∧ (∀ y0 y1 y2 y3 y4 y5 y6 y7 y8 y9 y10 y11 y12 y13 y14 y15 y16 y17 y18 y19, LeO (laws_FnVectorSums.j1 k y0 y1 y2 y3 y4 y5 y6 y7 y8 y9 y10 y11 y12 y13 y14 y15 y16 y17 y18 y19) (laws_FnVectorSums.j1 (k + 1) y0 y1 y2 y3 y4 y5 y6 y7 y8 y9 y10 y11 y12 y13 y14 y15 y16 y17 y18 y19))
  | 0 => ⟨fun _ _ _ _ _ _ _ _ _ _ _ _ _ _ _ _ _ _ _ _ _ _ _ _ _ _ _ r h => by simp [laws_FnVectorSums.j0] at h, fun _ _ _ _ _ _ _ _ _ _ _ _ _ _ _ _ _ _ _ _ r h => by simp [laws_FnVectorSums.j1] at h⟩
  | k + 1 => by
    obtain ⟨ih0, ih1⟩ := laws_FnVectorSums.mono_l k
    refine ⟨?_, ?_⟩
    · intro y0 y1 y2 y3 y4 y5 y6 y7 y8 y9 y10 y11 y12 y13 y14 y15 y16 y17 y18 y19 y20 y21 y22 y23 y24 y25 y26
      unfold laws_FnVectorSums.j0
      repeat' first
      | (with_reducible exact ih0 _ _ _ _ _ _ _ _ _ _ _ _ _ _ _ _ _ _ _ _ _ _ _ _ _ _ _)
      | (with_reducible exact ih1 _ _ _ _ _ _ _ _ _ _ _ _ _ _ _ _ _ _ _ _)
      | (with_reducible exact impl_AddVectors.mono _ _ _ _ _ _ _ _ _ _ _ _ _)
      | (with_reducible exact impl_ScaleVector.mono _ _ _ _ _ _ _ _ _)
      | (with_reducible exact spec_AddVectors.mono _ _ _ _ _ _ _ _ _ _ _ _ _)
      | (with_reducible exact spec_DrawAddVectors.mono _ _)
      | (with_reducible exact spec_DrawScaleVector.mono _ _)
      | (with_reducible exact spec_ScaleVector.mono _ _ _ _ _ _ _ _ _)
      | (with_reducible exact LeO.refl _)
      | (with_reducible exact LeO.none _)
      | (with_reducible refine LeO.ite ?_ ?_)
      | (with_reducible refine LeO.bind ?_ (fun _ => ?_))
      | exact ih0 _ _ _ _ _ _ _ _ _ _ _ _ _ _ _ _ _ _ _ _ _ _ _ _ _ _ _
      | exact ih1 _ _ _ _ _ _ _ _ _ _ _ _ _ _ _ _ _ _ _ _
      | exact impl_AddVectors.mono _ _ _ _ _ _ _ _ _ _ _ _ _
      | exact impl_ScaleVector.mono _ _ _ _ _ _ _ _ _
      | exact spec_AddVectors.mono _ _ _ _ _ _ _ _ _ _ _ _ _
      | exact spec_DrawAddVectors.mono _ _
      | exact spec_DrawScaleVector.mono _ _
      | exact spec_ScaleVector.mono _ _ _ _ _ _ _ _ _
      | exact LeO.none _
      | refine LeO.ite ?_ ?_
      | refine LeO.bind ?_ (fun _ => ?_)
    · intro y0 y1 y2 y3 y4 y5 y6 y7 y8 y9 y10 y11 y12 y13 y14 y15 y16 y17 y18 y19
      unfold laws_FnVectorSums.j1
      repeat' first
      | (with_reducible exact ih0 _ _ _ _ _ _ _ _ _ _ _ _ _ _ _ _ _ _ _ _ _ _ _ _ _ _ _)
      | (with_reducible exact ih1 _ _ _ _ _ _ _ _ _ _ _ _ _ _ _ _ _ _ _ _)
      | (with_reducible exact impl_AddVectors.mono _ _ _ _ _ _ _ _ _ _ _ _ _)
      | (with_reducible exact impl_ScaleVector.mono _ _ _ _ _ _ _ _ _)
      | (with_reducible exact spec_AddVectors.mono _ _ _ _ _ _ _ _ _ _ _ _ _)
      | (with_reducible exact spec_DrawAddVectors.mono _ _)
      | (with_reducible exact spec_DrawScaleVector.mono _ _)
      | (with_reducible exact spec_ScaleVector.mono _ _ _ _ _ _ _ _ _)
      | (with_reducible exact LeO.refl _)
      | (with_reducible exact LeO.none _)
      | (with_reducible refine LeO.ite ?_ ?_)
      | (with_reducible refine LeO.bind ?_ (fun _ => ?_))
      | exact ih0 _ _ _ _ _ _ _ _ _ _ _ _ _ _ _ _ _ _ _ _ _ _ _ _ _ _ _
      | exact ih1 _ _ _ _ _ _ _ _ _ _ _ _ _ _ _ _ _ _ _ _
      | exact impl_AddVectors.mono _ _ _ _ _ _ _ _ _ _ _ _ _
      | exact impl_ScaleVector.mono _ _ _ _ _ _ _ _ _
      | exact spec_AddVectors.mono _ _ _ _ _ _ _ _ _ _ _ _ _
      | exact spec_DrawAddVectors.mono _ _
      | exact spec_DrawScaleVector.mono _ _
      | exact spec_ScaleVector.mono _ _ _ _ _ _ _ _ _
      | exact LeO.none _
      | refine LeO.ite ?_ ?_
      | refine LeO.bind ?_ (fun _ => ?_)
theorem laws_FnVectorSums.mono : ∀ a0 k, LeO (laws_FnVectorSums.f k a0) (laws_FnVectorSums.f (k + 1) a0) := by
  intro a0 k
  obtain ⟨ih0, ih1⟩ := laws_FnVectorSums.mono_l k
  unfold laws_FnVectorSums.f
  repeat' first
      | (with_reducible exact ih0 _ _ _ _ _ _ _ _ _ _ _ _ _ _ _ _ _ _ _ _ _ _ _ _ _ _ _)
      | (with_reducible exact ih1 _ _ _ _ _ _ _ _ _ _ _ _ _ _ _ _ _ _ _ _)
      | (with_reducible exact impl_AddVectors.mono _ _ _ _ _ _ _ _ _ _ _ _ _)
      | (with_reducible exact impl_ScaleVector.mono _ _ _ _ _ _ _ _ _)
      | (with_reducible exact spec_AddVectors.mono _ _ _ _ _ _ _ _ _ _ _ _ _)
      | (with_reducible exact spec_DrawAddVectors.mono _ _)
      | (with_reducible exact spec_DrawScaleVector.mono _ _)
      | (with_reducible exact spec_ScaleVector.mono _ _ _ _ _ _ _ _ _)
      | (with_reducible exact LeO.refl _)
      | (with_reducible exact LeO.none _)
      | (with_reducible refine LeO.ite ?_ ?_)
      | (with_reducible refine LeO.bind ?_ (fun _ => ?_))
      | exact ih0 _ _ _ _ _ _ _ _ _ _ _ _ _ _ _ _ _ _ _ _ _ _ _ _ _ _ _
      | exact ih1 _ _ _ _ _ _ _ _ _ _ _ _ _ _ _ _ _ _ _ _
      | exact impl_AddVectors.mono _ _ _ _ _ _ _ _ _ _ _ _ _
      | exact impl_ScaleVector.mono _ _ _ _ _ _ _ _ _
      | exact spec_AddVectors.mono _ _ _ _ _ _ _ _ _ _ _ _ _
      | exact spec_DrawAddVectors.mono _ _
      | exact spec_DrawScaleVector.mono _ _
      | exact spec_ScaleVector.mono _ _ _ _ _ _ _ _ _
      | exact LeO.none _
      | refine LeO.ite ?_ ?_
      | refine LeO.bind ?_ (fun _ => ?_)
set_option maxHeartbeats 8000000 in
set_option maxRecDepth 100000 in
theorem laws_FnVectorSums.calls_true (k : Nat) (A0 : Option Addr) (c0 : Nat) (l0 : List Int) (w : World) (hr0 : Kd.C (Kd.int .u8) w A0 l0.length l0) (hc0 : l0.length ≤ c0) (h : laws_FnVectorSums.f k l0 = some true) :
    Calls Try.prog 8 #[.slice A0 l0.length c0] w fun e w' => e = .returned (.bool true) ∧ Below w.heap.size w w' := by
  have hu44 := Try.underlying44
  have hu33 := Try.underlying33
  have HR0 := Aside0.mk hr0
  have HC0 := Aside0.mk hc0
  clear hr0 hc0
  have HB := Aside0.mk (Below.refl w.heap.size w)
  have H : ((laws_big.f l0).bind fun t451 => (if t451 = true then (some true) else ((spec_DrawAddVectors.f k l0).bind fun bt452 => ((impl_AddVectors.f k bt452.1 bt452.2.1 bt452.2.2.1 bt452.2.2.2.1 bt452.2.2.2.2.1 bt452.2.2.2.2.2.1 bt452.2.2.2.2.2.2.1 bt452.2.2.2.2.2.2.2.1 bt452.2.2.2.2.2.2.2.2.1 bt452.2.2.2.2.2.2.2.2.2.1 bt452.2.2.2.2.2.2.2.2.2.2.1 bt452.2.2.2.2.2.2.2.2.2.2.2).bind fun bt466 => ((spec_AddVectors.f k bt452.1 bt452.2.1 bt452.2.2.1 bt452.2.2.2.1 bt452.2.2.2.2.1 bt452.2.2.2.2.2.1 bt452.2.2.2.2.2.2.1 bt452.2.2.2.2.2.2.2.1 bt452.2.2.2.2.2.2.2.2.1 bt452.2.2.2.2.2.2.2.2.2.1 bt452.2.2.2.2.2.2.2.2.2.2.1 bt452.2.2.2.2.2.2.2.2.2.2.2).bind fun bt474 => ((spec_DrawScaleVector.f k l0).bind fun bt482 => ((impl_ScaleVector.f k bt482.1 bt482.2.1 bt482.2.2.1 bt482.2.2.2.1 bt482.2.2.2.2.1 bt482.2.2.2.2.2.1 bt482.2.2.2.2.2.2.1 bt482.2.2.2.2.2.2.2).bind fun bt492 => ((spec_ScaleVector.f k bt482.1 bt482.2.1 bt482.2.2.1 bt482.2.2.2.1 bt482.2.2.2.2.1 bt482.2.2.2.2.2.1 bt482.2.2.2.2.2.2.1 bt482.2.2.2.2.2.2.2).bind fun bt500 => (if bt466.2.2.2.2.2.2 = bt474.2.2.2.2.2.2 then (if ((!(bt466.1 == bt474.1) || (!(bt466.2.1 == bt474.2.1))) || ((!(bt466.2.2.1 == bt474.2.2.1) || (!(bt466.2.2.2.1 == bt474.2.2.2.1))) || ((!(bt466.2.2.2.2.1 == bt474.2.2.2.2.1) || (!(bt466.2.2.2.2.2.1 == bt474.2.2.2.2.2.1)))))) = true then (laws_FnVectorSums.j0 k bt466.2.2.2.2.2.2 bt492.2.2.2.2.2.2 true bt452.1 bt452.2.1 bt452.2.2.1 bt452.2.2.2.1 bt452.2.2.2.2.1 bt452.2.2.2.2.2.1 bt452.2.2.2.2.2.2.1 bt452.2.2.2.2.2.2.2.1 bt452.2.2.2.2.2.2.2.2.1 bt452.2.2.2.2.2.2.2.2.2.1 bt452.2.2.2.2.2.2.2.2.2.2.1 bt452.2.2.2.2.2.2.2.2.2.2.2 bt466.1 bt466.2.1 bt466.2.2.1 bt466.2.2.2.1 bt466.2.2.2.2.1 bt466.2.2.2.2.2.1 bt482.1 bt482.2.1 bt482.2.2.1 bt482.2.2.2.1 bt482.2.2.2.2.1 bt482.2.2.2.2.2.1) else (if bt492.2.2.2.2.2.2 = bt500.2.2.2.2.2.2 then (laws_FnVectorSums.j0 k bt466.2.2.2.2.2.2 bt492.2.2.2.2.2.2 ((!(bt492.1 == bt500.1) || (!(bt492.2.1 == bt500.2.1))) || ((!(bt492.2.2.1 == bt500.2.2.1) || (!(bt492.2.2.2.1 == bt500.2.2.2.1))) || ((!(bt492.2.2.2.2.1 == bt500.2.2.2.2.1) || (!(bt492.2.2.2.2.2.1 == bt500.2.2.2.2.2.1)))))) bt452.1 bt452.2.1 bt452.2.2.1 bt452.2.2.2.1 bt452.2.2.2.2.1 bt452.2.2.2.2.2.1 bt452.2.2.2.2.2.2.1 bt452.2.2.2.2.2.2.2.1 bt452.2.2.2.2.2.2.2.2.1 bt452.2.2.2.2.2.2.2.2.2.1 bt452.2.2.2.2.2.2.2.2.2.2.1 bt452.2.2.2.2.2.2.2.2.2.2.2 bt466.1 bt466.2.1 bt466.2.2.1 bt466.2.2.2.1 bt466.2.2.2.2.1 bt466.2.2.2.2.2.1 bt482.1 bt482.2.1 bt482.2.2.1 bt482.2.2.2.1 bt482.2.2.2.2.1 bt482.2.2.2.2.2.1) else (laws_FnVectorSums.j0 k bt466.2.2.2.2.2.2 bt492.2.2.2.2.2.2 true bt452.1 bt452.2.1 bt452.2.2.1 bt452.2.2.2.1 bt452.2.2.2.2.1 bt452.2.2.2.2.2.1 bt452.2.2.2.2.2.2.1 bt452.2.2.2.2.2.2.2.1 bt452.2.2.2.2.2.2.2.2.1 bt452.2.2.2.2.2.2.2.2.2.1 bt452.2.2.2.2.2.2.2.2.2.2.1 bt452.2.2.2.2.2.2.2.2.2.2.2 bt466.1 bt466.2.1 bt466.2.2.1 bt466.2.2.2.1 bt466.2.2.2.2.1 bt466.2.2.2.2.2.1 bt482.1 bt482.2.1 bt482.2.2.1 bt482.2.2.2.1 bt482.2.2.2.2.1 bt482.2.2.2.2.2.1))) else (laws_FnVectorSums.j0 k bt466.2.2.2.2.2.2 bt492.2.2.2.2.2.2 true bt452.1 bt452.2.1 bt452.2.2.1 bt452.2.2.2.1 bt452.2.2.2.2.1 bt452.2.2.2.2.2.1 bt452.2.2.2.2.2.2.1 bt452.2.2.2.2.2.2.2.1 bt452.2.2.2.2.2.2.2.2.1 bt452.2.2.2.2.2.2.2.2.2.1 bt452.2.2.2.2.2.2.2.2.2.2.1 bt452.2.2.2.2.2.2.2.2.2.2.2 bt466.1 bt466.2.1 bt466.2.2.1 bt466.2.2.2.1 bt466.2.2.2.2.1 bt466.2.2.2.2.2.1 bt482.1 bt482.2.1 bt482.2.2.1 bt482.2.2.2.1 bt482.2.2.2.2.1 bt482.2.2.2.2.2.1)))))))))) = some true := h
  clear h
  replace H := Option.bind_eq_some_iff.mp H
  obtain ⟨t451, A20, H⟩ := H
  replace H : (if t451 = true then (some true) else ((spec_DrawAddVectors.f k l0).bind fun bt452 => ((impl_AddVectors.f k bt452.1 bt452.2.1 bt452.2.2.1 bt452.2.2.2.1 bt452.2.2.2.2.1 bt452.2.2.2.2.2.1 bt452.2.2.2.2.2.2.1 bt452.2.2.2.2.2.2.2.1 bt452.2.2.2.2.2.2.2.2.1 bt452.2.2.2.2.2.2.2.2.2.1 bt452.2.2.2.2.2.2.2.2.2.2.1 bt452.2.2.2.2.2.2.2.2.2.2.2).bind fun bt466 => ((spec_AddVectors.f k bt452.1 bt452.2.1 bt452.2.2.1 bt452.2.2.2.1 bt452.2.2.2.2.1 bt452.2.2.2.2.2.1 bt452.2.2.2.2.2.2.1 bt452.2.2.2.2.2.2.2.1 bt452.2.2.2.2.2.2.2.2.1 bt452.2.2.2.2.2.2.2.2.2.1 bt452.2.2.2.2.2.2.2.2.2.2.1 bt452.2.2.2.2.2.2.2.2.2.2.2).bind fun bt474 => ((spec_DrawScaleVector.f k l0).bind fun bt482 => ((impl_ScaleVector.f k bt482.1 bt482.2.1 bt482.2.2.1 bt482.2.2.2.1 bt482.2.2.2.2.1 bt482.2.2.2.2.2.1 bt482.2.2.2.2.2.2.1 bt482.2.2.2.2.2.2.2).bind fun bt492 => ((spec_ScaleVector.f k bt482.1 bt482.2.1 bt482.2.2.1 bt482.2.2.2.1 bt482.2.2.2.2.1 bt482.2.2.2.2.2.1 bt482.2.2.2.2.2.2.1 bt482.2.2.2.2.2.2.2).bind fun bt500 => (if bt466.2.2.2.2.2.2 = bt474.2.2.2.2.2.2 then (if ((!(bt466.1 == bt474.1) || (!(bt466.2.1 == bt474.2.1))) || ((!(bt466.2.2.1 == bt474.2.2.1) || (!(bt466.2.2.2.1 == bt474.2.2.2.1))) || ((!(bt466.2.2.2.2.1 == bt474.2.2.2.2.1) || (!(bt466.2.2.2.2.2.1 == bt474.2.2.2.2.2.1)))))) = true then (laws_FnVectorSums.j0 k bt466.2.2.2.2.2.2 bt492.2.2.2.2.2.2 true bt452.1 bt452.2.1 bt452.2.2.1 bt452.2.2.2.1 bt452.2.2.2.2.1 bt452.2.2.2.2.2.1 bt452.2.2.2.2.2.2.1 bt452.2.2.2.2.2.2.2.1 bt452.2.2.2.2.2.2.2.2.1 bt452.2.2.2.2.2.2.2.2.2.1 bt452.2.2.2.2.2.2.2.2.2.2.1 bt452.2.2.2.2.2.2.2.2.2.2.2 bt466.1 bt466.2.1 bt466.2.2.1 bt466.2.2.2.1 bt466.2.2.2.2.1 bt466.2.2.2.2.2.1 bt482.1 bt482.2.1 bt482.2.2.1 bt482.2.2.2.1 bt482.2.2.2.2.1 bt482.2.2.2.2.2.1) else (if bt492.2.2.2.2.2.2 = bt500.2.2.2.2.2.2 then (laws_FnVectorSums.j0 k bt466.2.2.2.2.2.2 bt492.2.2.2.2.2.2 ((!(bt492.1 == bt500.1) || (!(bt492.2.1 == bt500.2.1))) || ((!(bt492.2.2.1 == bt500.2.2.1) || (!(bt492.2.2.2.1 == bt500.2.2.2.1))) || ((!(bt492.2.2.2.2.1 == bt500.2.2.2.2.1) || (!(bt492.2.2.2.2.2.1 == bt500.2.2.2.2.2.1)))))) bt452.1 bt452.2.1 bt452.2.2.1 bt452.2.2.2.1 bt452.2.2.2.2.1 bt452.2.2.2.2.2.1 bt452.2.2.2.2.2.2.1 bt452.2.2.2.2.2.2.2.1 bt452.2.2.2.2.2.2.2.2.1 bt452.2.2.2.2.2.2.2.2.2.1 bt452.2.2.2.2.2.2.2.2.2.2.1 bt452.2.2.2.2.2.2.2.2.2.2.2 bt466.1 bt466.2.1 bt466.2.2.1 bt466.2.2.2.1 bt466.2.2.2.2.1 bt466.2.2.2.2.2.1 bt482.1 bt482.2.1 bt482.2.2.1 bt482.2.2.2.1 bt482.2.2.2.2.1 bt482.2.2.2.2.2.1) else (laws_FnVectorSums.j0 k bt466.2.2.2.2.2.2 bt492.2.2.2.2.2.2 true bt452.1 bt452.2.1 bt452.2.2.1 bt452.2.2.2.1 bt452.2.2.2.2.1 bt452.2.2.2.2.2.1 bt452.2.2.2.2.2.2.1 bt452.2.2.2.2.2.2.2.1 bt452.2.2.2.2.2.2.2.2.1 bt452.2.2.2.2.2.2.2.2.2.1 bt452.2.2.2.2.2.2.2.2.2.2.1 bt452.2.2.2.2.2.2.2.2.2.2.2 bt466.1 bt466.2.1 bt466.2.2.1 bt466.2.2.2.1 bt466.2.2.2.2.1 bt466.2.2.2.2.2.1 bt482.1 bt482.2.1 bt482.2.2.1 bt482.2.2.2.1 bt482.2.2.2.2.1 bt482.2.2.2.2.2.1))) else (laws_FnVectorSums.j0 k bt466.2.2.2.2.2.2 bt492.2.2.2.2.2.2 true bt452.1 bt452.2.1 bt452.2.2.1 bt452.2.2.2.1 bt452.2.2.2.2.1 bt452.2.2.2.2.2.1 bt452.2.2.2.2.2.2.1 bt452.2.2.2.2.2.2.2.1 bt452.2.2.2.2.2.2.2.2.1 bt452.2.2.2.2.2.2.2.2.2.1 bt452.2.2.2.2.2.2.2.2.2.2.1 bt452.2.2.2.2.2.2.2.2.2.2.2 bt466.1 bt466.2.1 bt466.2.2.1 bt466.2.2.2.1 bt466.2.2.2.2.1 bt466.2.2.2.2.2.1 bt482.1 bt482.2.1 bt482.2.2.1 bt482.2.2.2.1 bt482.2.2.2.2.1 bt482.2.2.2.2.2.1))))))))) = some true := H
  have A2 := Aside0.mk A20
  clear A20
  by_cases c3 : t451 = true
  · subst c3
    have H1 : (some true) = some true := by rw [if_pos rfl] at H <;> exact H
    clear H
    have H := H1
    clear H1
    clear H
    go_enter Try.func8, Try.ntmps8
    go_wp2_with (first | ((with_reducible refine gate_callee (f := 9) rfl ?_); refine goesL_ (some 20) rfl rfl Try.func9 (by kernel_rfl) rfl #[.slice A0 l0.length c0] rfl (by (try simp only [List.map_toArray, List.map_cons, List.map_nil]); first | done | rfl | (simp only [List.length_drop, List.length_take]; rfl)) ?_; (with_reducible refine (laws_big.calls _ _ l0 true _ ?side1 ?side2 A2.out).mono ?_); (case side1 => repeat (first | exact HR0.out | (with_reducible refine Kd.C_alloc ?_ _) | (with_reducible refine Kd.C_drewN ?_ _) | (with_reducible refine Kd.C_drew ?_))); (case side2 => exact HC0.out); rintro e w' ⟨rfl, ⟨nd, rfl⟩⟩; refine ⟨_, rfl, ?_⟩))
    go_ret
    exact ⟨by first | rfl | (simp [errW_none, errW_some] <;> rfl) | (simp [*, errW_none, errW_some] <;> rfl), by repeat (first | (with_reducible first | exact HB.out | apply below_alloc | apply pw_below_drewN | apply below_drew1) | exact HB.out)⟩
  · replace c3 := Bool.eq_false_iff.mpr c3
    subst c3
    have H1 : ((spec_DrawAddVectors.f k l0).bind fun bt452 => ((impl_AddVectors.f k bt452.1 bt452.2.1 bt452.2.2.1 bt452.2.2.2.1 bt452.2.2.2.2.1 bt452.2.2.2.2.2.1 bt452.2.2.2.2.2.2.1 bt452.2.2.2.2.2.2.2.1 bt452.2.2.2.2.2.2.2.2.1 bt452.2.2.2.2.2.2.2.2.2.1 bt452.2.2.2.2.2.2.2.2.2.2.1 bt452.2.2.2.2.2.2.2.2.2.2.2).bind fun bt466 => ((spec_AddVectors.f k bt452.1 bt452.2.1 bt452.2.2.1 bt452.2.2.2.1 bt452.2.2.2.2.1 bt452.2.2.2.2.2.1 bt452.2.2.2.2.2.2.1 bt452.2.2.2.2.2.2.2.1 bt452.2.2.2.2.2.2.2.2.1 bt452.2.2.2.2.2.2.2.2.2.1 bt452.2.2.2.2.2.2.2.2.2.2.1 bt452.2.2.2.2.2.2.2.2.2.2.2).bind fun bt474 => ((spec_DrawScaleVector.f k l0).bind fun bt482 => ((impl_ScaleVector.f k bt482.1 bt482.2.1 bt482.2.2.1 bt482.2.2.2.1 bt482.2.2.2.2.1 bt482.2.2.2.2.2.1 bt482.2.2.2.2.2.2.1 bt482.2.2.2.2.2.2.2).bind fun bt492 => ((spec_ScaleVector.f k bt482.1 bt482.2.1 bt482.2.2.1 bt482.2.2.2.1 bt482.2.2.2.2.1 bt482.2.2.2.2.2.1 bt482.2.2.2.2.2.2.1 bt482.2.2.2.2.2.2.2).bind fun bt500 => (if bt466.2.2.2.2.2.2 = bt474.2.2.2.2.2.2 then (if ((!(bt466.1 == bt474.1) || (!(bt466.2.1 == bt474.2.1))) || ((!(bt466.2.2.1 == bt474.2.2.1) || (!(bt466.2.2.2.1 == bt474.2.2.2.1))) || ((!(bt466.2.2.2.2.1 == bt474.2.2.2.2.1) || (!(bt466.2.2.2.2.2.1 == bt474.2.2.2.2.2.1)))))) = true then (laws_FnVectorSums.j0 k bt466.2.2.2.2.2.2 bt492.2.2.2.2.2.2 true bt452.1 bt452.2.1 bt452.2.2.1 bt452.2.2.2.1 bt452.2.2.2.2.1 bt452.2.2.2.2.2.1 bt452.2.2.2.2.2.2.1 bt452.2.2.2.2.2.2.2.1 bt452.2.2.2.2.2.2.2.2.1 bt452.2.2.2.2.2.2.2.2.2.1 bt452.2.2.2.2.2.2.2.2.2.2.1 bt452.2.2.2.2.2.2.2.2.2.2.2 bt466.1 bt466.2.1 bt466.2.2.1 bt466.2.2.2.1 bt466.2.2.2.2.1 bt466.2.2.2.2.2.1 bt482.1 bt482.2.1 bt482.2.2.1 bt482.2.2.2.1 bt482.2.2.2.2.1 bt482.2.2.2.2.2.1) else (if bt492.2.2.2.2.2.2 = bt500.2.2.2.2.2.2 then (laws_FnVectorSums.j0 k bt466.2.2.2.2.2.2 bt492.2.2.2.2.2.2 ((!(bt492.1 == bt500.1) || (!(bt492.2.1 == bt500.2.1))) || ((!(bt492.2.2.1 == bt500.2.2.1) || (!(bt492.2.2.2.1 == bt500.2.2.2.1))) || ((!(bt492.2.2.2.2.1 == bt500.2.2.2.2.1) || (!(bt492.2.2.2.2.2.1 == bt500.2.2.2.2.2.1)))))) bt452.1 bt452.2.1 bt452.2.2.1 bt452.2.2.2.1 bt452.2.2.2.2.1 bt452.2.2.2.2.2.1 bt452.2.2.2.2.2.2.1 bt452.2.2.2.2.2.2.2.1 bt452.2.2.2.2.2.2.2.2.1 bt452.2.2.2.2.2.2.2.2.2.1 bt452.2.2.2.2.2.2.2.2.2.2.1 bt452.2.2.2.2.2.2.2.2.2.2.2 bt466.1 bt466.2.1 bt466.2.2.1 bt466.2.2.2.1 bt466.2.2.2.2.1 bt466.2.2.2.2.2.1 bt482.1 bt482.2.1 bt482.2.2.1 bt482.2.2.2.1 bt482.2.2.2.2.1 bt482.2.2.2.2.2.1) else (laws_FnVectorSums.j0 k bt466.2.2.2.2.2.2 bt492.2.2.2.2.2.2 true bt452.1 bt452.2.1 bt452.2.2.1 bt452.2.2.2.1 bt452.2.2.2.2.1 bt452.2.2.2.2.2.1 bt452.2.2.2.2.2.2.1 bt452.2.2.2.2.2.2.2.1 bt452.2.2.2.2.2.2.2.2.1 bt452.2.2.2.2.2.2.2.2.2.1 bt452.2.2.2.2.2.2.2.2.2.2.1 bt452.2.2.2.2.2.2.2.2.2.2.2 bt466.1 bt466.2.1 bt466.2.2.1 bt466.2.2.2.1 bt466.2.2.2.2.1 bt466.2.2.2.2.2.1 bt482.1 bt482.2.1 bt482.2.2.1 bt482.2.2.2.1 bt482.2.2.2.2.1 bt482.2.2.2.2.2.1))) else (laws_FnVectorSums.j0 k bt466.2.2.2.2.2.2 bt492.2.2.2.2.2.2 true bt452.1 bt452.2.1 bt452.2.2.1 bt452.2.2.2.1 bt452.2.2.2.2.1 bt452.2.2.2.2.2.1 bt452.2.2.2.2.2.2.1 bt452.2.2.2.2.2.2.2.1 bt452.2.2.2.2.2.2.2.2.1 bt452.2.2.2.2.2.2.2.2.2.1 bt452.2.2.2.2.2.2.2.2.2.2.1 bt452.2.2.2.2.2.2.2.2.2.2.2 bt466.1 bt466.2.1 bt466.2.2.1 bt466.2.2.2.1 bt466.2.2.2.2.1 bt466.2.2.2.2.2.1 bt482.1 bt482.2.1 bt482.2.2.1 bt482.2.2.2.1 bt482.2.2.2.2.1 bt482.2.2.2.2.2.1)))))))) = some true := by rw [if_neg (show ¬ (false = true) by decide)] at H <;> exact H
    clear H
    have H := H1
    clear H1
    replace H := Option.bind_eq_some_iff.mp H
    obtain ⟨⟨t452, t453, t454, t455, t456, t457, t458, t459, t460, t461, t462, t463⟩, A40, H⟩ := H
    replace H : ((impl_AddVectors.f k t452 t453 t454 t455 t456 t457 t458 t459 t460 t461 t462 t463).bind fun bt466 => ((spec_AddVectors.f k t452 t453 t454 t455 t456 t457 t458 t459 t460 t461 t462 t463).bind fun bt474 => ((spec_DrawScaleVector.f k l0).bind fun bt482 => ((impl_ScaleVector.f k bt482.1 bt482.2.1 bt482.2.2.1 bt482.2.2.2.1 bt482.2.2.2.2.1 bt482.2.2.2.2.2.1 bt482.2.2.2.2.2.2.1 bt482.2.2.2.2.2.2.2).bind fun bt492 => ((spec_ScaleVector.f k bt482.1 bt482.2.1 bt482.2.2.1 bt482.2.2.2.1 bt482.2.2.2.2.1 bt482.2.2.2.2.2.1 bt482.2.2.2.2.2.2.1 bt482.2.2.2.2.2.2.2).bind fun bt500 => (if bt466.2.2.2.2.2.2 = bt474.2.2.2.2.2.2 then (if ((!(bt466.1 == bt474.1) || (!(bt466.2.1 == bt474.2.1))) || ((!(bt466.2.2.1 == bt474.2.2.1) || (!(bt466.2.2.2.1 == bt474.2.2.2.1))) || ((!(bt466.2.2.2.2.1 == bt474.2.2.2.2.1) || (!(bt466.2.2.2.2.2.1 == bt474.2.2.2.2.2.1)))))) = true then (laws_FnVectorSums.j0 k bt466.2.2.2.2.2.2 bt492.2.2.2.2.2.2 true t452 t453 t454 t455 t456 t457 t458 t459 t460 t461 t462 t463 bt466.1 bt466.2.1 bt466.2.2.1 bt466.2.2.2.1 bt466.2.2.2.2.1 bt466.2.2.2.2.2.1 bt482.1 bt482.2.1 bt482.2.2.1 bt482.2.2.2.1 bt482.2.2.2.2.1 bt482.2.2.2.2.2.1) else (if bt492.2.2.2.2.2.2 = bt500.2.2.2.2.2.2 then (laws_FnVectorSums.j0 k bt466.2.2.2.2.2.2 bt492.2.2.2.2.2.2 ((!(bt492.1 == bt500.1) || (!(bt492.2.1 == bt500.2.1))) || ((!(bt492.2.2.1 == bt500.2.2.1) || (!(bt492.2.2.2.1 == bt500.2.2.2.1))) || ((!(bt492.2.2.2.2.1 == bt500.2.2.2.2.1) || (!(bt492.2.2.2.2.2.1 == bt500.2.2.2.2.2.1)))))) t452 t453 t454 t455 t456 t457 t458 t459 t460 t461 t462 t463 bt466.1 bt466.2.1 bt466.2.2.1 bt466.2.2.2.1 bt466.2.2.2.2.1 bt466.2.2.2.2.2.1 bt482.1 bt482.2.1 bt482.2.2.1 bt482.2.2.2.1 bt482.2.2.2.2.1 bt482.2.2.2.2.2.1) else (laws_FnVectorSums.j0 k bt466.2.2.2.2.2.2 bt492.2.2.2.2.2.2 true t452 t453 t454 t455 t456 t457 t458 t459 t460 t461 t462 t463 bt466.1 bt466.2.1 bt466.2.2.1 bt466.2.2.2.1 bt466.2.2.2.2.1 bt466.2.2.2.2.2.1 bt482.1 bt482.2.1 bt482.2.2.1 bt482.2.2.2.1 bt482.2.2.2.2.1 bt482.2.2.2.2.2.1))) else (laws_FnVectorSums.j0 k bt466.2.2.2.2.2.2 bt492.2.2.2.2.2.2 true t452 t453 t454 t455 t456 t457 t458 t459 t460 t461 t462 t463 bt466.1 bt466.2.1 bt466.2.2.1 bt466.2.2.2.1 bt466.2.2.2.2.1 bt466.2.2.2.2.2.1 bt482.1 bt482.2.1 bt482.2.2.1 bt482.2.2.2.1 bt482.2.2.2.2.1 bt482.2.2.2.2.2.1))))))) = some true := H
    have A4 := Aside0.mk A40
    clear A40
    replace H := Option.bind_eq_some_iff.mp H
    obtain ⟨⟨t466, t467, t468, t469, t470, t471, t472⟩, A50, H⟩ := H
    replace H : ((spec_AddVectors.f k t452 t453 t454 t455 t456 t457 t458 t459 t460 t461 t462 t463).bind fun bt474 => ((spec_DrawScaleVector.f k l0).bind fun bt482 => ((impl_ScaleVector.f k bt482.1 bt482.2.1 bt482.2.2.1 bt482.2.2.2.1 bt482.2.2.2.2.1 bt482.2.2.2.2.2.1 bt482.2.2.2.2.2.2.1 bt482.2.2.2.2.2.2.2).bind fun bt492 => ((spec_ScaleVector.f k bt482.1 bt482.2.1 bt482.2.2.1 bt482.2.2.2.1 bt482.2.2.2.2.1 bt482.2.2.2.2.2.1 bt482.2.2.2.2.2.2.1 bt482.2.2.2.2.2.2.2).bind fun bt500 => (if t472 = bt474.2.2.2.2.2.2 then (if ((!(t466 == bt474.1) || (!(t467 == bt474.2.1))) || ((!(t468 == bt474.2.2.1) || (!(t469 == bt474.2.2.2.1))) || ((!(t470 == bt474.2.2.2.2.1) || (!(t471 == bt474.2.2.2.2.2.1)))))) = true then (laws_FnVectorSums.j0 k t472 bt492.2.2.2.2.2.2 true t452 t453 t454 t455 t456 t457 t458 t459 t460 t461 t462 t463 t466 t467 t468 t469 t470 t471 bt482.1 bt482.2.1 bt482.2.2.1 bt482.2.2.2.1 bt482.2.2.2.2.1 bt482.2.2.2.2.2.1) else (if bt492.2.2.2.2.2.2 = bt500.2.2.2.2.2.2 then (laws_FnVectorSums.j0 k t472 bt492.2.2.2.2.2.2 ((!(bt492.1 == bt500.1) || (!(bt492.2.1 == bt500.2.1))) || ((!(bt492.2.2.1 == bt500.2.2.1) || (!(bt492.2.2.2.1 == bt500.2.2.2.1))) || ((!(bt492.2.2.2.2.1 == bt500.2.2.2.2.1) || (!(bt492.2.2.2.2.2.1 == bt500.2.2.2.2.2.1)))))) t452 t453 t454 t455 t456 t457 t458 t459 t460 t461 t462 t463 t466 t467 t468 t469 t470 t471 bt482.1 bt482.2.1 bt482.2.2.1 bt482.2.2.2.1 bt482.2.2.2.2.1 bt482.2.2.2.2.2.1) else (laws_FnVectorSums.j0 k t472 bt492.2.2.2.2.2.2 true t452 t453 t454 t455 t456 t457 t458 t459 t460 t461 t462 t463 t466 t467 t468 t469 t470 t471 bt482.1 bt482.2.1 bt482.2.2.1 bt482.2.2.2.1 bt482.2.2.2.2.1 bt482.2.2.2.2.2.1))) else (laws_FnVectorSums.j0 k t472 bt492.2.2.2.2.2.2 true t452 t453 t454 t455 t456 t457 t458 t459 t460 t461 t462 t463 t466 t467 t468 t469 t470 t471 bt482.1 bt482.2.1 bt482.2.2.1 bt482.2.2.2.1 bt482.2.2.2.2.1 bt482.2.2.2.2.2.1)))))) = some true := H
    have A5 := Aside0.mk A50
    clear A50
    replace H := Option.bind_eq_some_iff.mp H
    obtain ⟨⟨t474, t475, t476, t477, t478, t479, t480⟩, A60, H⟩ := H
    replace H : ((spec_DrawScaleVector.f k l0).bind fun bt482 => ((impl_ScaleVector.f k bt482.1 bt482.2.1 bt482.2.2.1 bt482.2.2.2.1 bt482.2.2.2.2.1 bt482.2.2.2.2.2.1 bt482.2.2.2.2.2.2.1 bt482.2.2.2.2.2.2.2).bind fun bt492 => ((spec_ScaleVector.f k bt482.1 bt482.2.1 bt482.2.2.1 bt482.2.2.2.1 bt482.2.2.2.2.1 bt482.2.2.2.2.2.1 bt482.2.2.2.2.2.2.1 bt482.2.2.2.2.2.2.2).bind fun bt500 => (if t472 = t480 then (if ((!(t466 == t474) || (!(t467 == t475))) || ((!(t468 == t476) || (!(t469 == t477))) || ((!(t470 == t478) || (!(t471 == t479)))))) = true then (laws_FnVectorSums.j0 k t472 bt492.2.2.2.2.2.2 true t452 t453 t454 t455 t456 t457 t458 t459 t460 t461 t462 t463 t466 t467 t468 t469 t470 t471 bt482.1 bt482.2.1 bt482.2.2.1 bt482.2.2.2.1 bt482.2.2.2.2.1 bt482.2.2.2.2.2.1) else (if bt492.2.2.2.2.2.2 = bt500.2.2.2.2.2.2 then (laws_FnVectorSums.j0 k t472 bt492.2.2.2.2.2.2 ((!(bt492.1 == bt500.1) || (!(bt492.2.1 == bt500.2.1))) || ((!(bt492.2.2.1 == bt500.2.2.1) || (!(bt492.2.2.2.1 == bt500.2.2.2.1))) || ((!(bt492.2.2.2.2.1 == bt500.2.2.2.2.1) || (!(bt492.2.2.2.2.2.1 == bt500.2.2.2.2.2.1)))))) t452 t453 t454 t455 t456 t457 t458 t459 t460 t461 t462 t463 t466 t467 t468 t469 t470 t471 bt482.1 bt482.2.1 bt482.2.2.1 bt482.2.2.2.1 bt482.2.2.2.2.1 bt482.2.2.2.2.2.1) else (laws_FnVectorSums.j0 k t472 bt492.2.2.2.2.2.2 true t452 t453 t454 t455 t456 t457 t458 t459 t460 t461 t462 t463 t466 t467 t468 t469 t470 t471 bt482.1 bt482.2.1 bt482.2.2.1 bt482.2.2.2.1 bt482.2.2.2.2.1 bt482.2.2.2.2.2.1))) else (laws_FnVectorSums.j0 k t472 bt492.2.2.2.2.2.2 true t452 t453 t454 t455 t456 t457 t458 t459 t460 t461 t462 t463 t466 t467 t468 t469 t470 t471 bt482.1 bt482.2.1 bt482.2.2.1 bt482.2.2.2.1 bt482.2.2.2.2.1 bt482.2.2.2.2.2.1))))) = some true := H
    have A6 := Aside0.mk A60
    clear A60
    replace H := Option.bind_eq_some_iff.mp H
    obtain ⟨⟨t482, t483, t484, t485, t486, t487, t488, t489⟩, A70, H⟩ := H
    replace H : ((impl_ScaleVector.f k t482 t483 t484 t485 t486 t487 t488 t489).bind fun bt492 => ((spec_ScaleVector.f k t482 t483 t484 t485 t486 t487 t488 t489).bind fun bt500 => (if t472 = t480 then (if ((!(t466 == t474) || (!(t467 == t475))) || ((!(t468 == t476) || (!(t469 == t477))) || ((!(t470 == t478) || (!(t471 == t479)))))) = true then (laws_FnVectorSums.j0 k t472 bt492.2.2.2.2.2.2 true t452 t453 t454 t455 t456 t457 t458 t459 t460 t461 t462 t463 t466 t467 t468 t469 t470 t471 t482 t483 t484 t485 t486 t487) else (if bt492.2.2.2.2.2.2 = bt500.2.2.2.2.2.2 then (laws_FnVectorSums.j0 k t472 bt492.2.2.2.2.2.2 ((!(bt492.1 == bt500.1) || (!(bt492.2.1 == bt500.2.1))) || ((!(bt492.2.2.1 == bt500.2.2.1) || (!(bt492.2.2.2.1 == bt500.2.2.2.1))) || ((!(bt492.2.2.2.2.1 == bt500.2.2.2.2.1) || (!(bt492.2.2.2.2.2.1 == bt500.2.2.2.2.2.1)))))) t452 t453 t454 t455 t456 t457 t458 t459 t460 t461 t462 t463 t466 t467 t468 t469 t470 t471 t482 t483 t484 t485 t486 t487) else (laws_FnVectorSums.j0 k t472 bt492.2.2.2.2.2.2 true t452 t453 t454 t455 t456 t457 t458 t459 t460 t461 t462 t463 t466 t467 t468 t469 t470 t471 t482 t483 t484 t485 t486 t487))) else (laws_FnVectorSums.j0 k t472 bt492.2.2.2.2.2.2 true t452 t453 t454 t455 t456 t457 t458 t459 t460 t461 t462 t463 t466 t467 t468 t469 t470 t471 t482 t483 t484 t485 t486 t487)))) = some true := H
    have A7 := Aside0.mk A70
    clear A70
    replace H := Option.bind_eq_some_iff.mp H
    obtain ⟨⟨t492, t493, t494, t495, t496, t497, t498⟩, A80, H⟩ := H
    replace H : ((spec_ScaleVector.f k t482 t483 t484 t485 t486 t487 t488 t489).bind fun bt500 => (if t472 = t480 then (if ((!(t466 == t474) || (!(t467 == t475))) || ((!(t468 == t476) || (!(t469 == t477))) || ((!(t470 == t478) || (!(t471 == t479)))))) = true then (laws_FnVectorSums.j0 k t472 t498 true t452 t453 t454 t455 t456 t457 t458 t459 t460 t461 t462 t463 t466 t467 t468 t469 t470 t471 t482 t483 t484 t485 t486 t487) else (if t498 = bt500.2.2.2.2.2.2 then (laws_FnVectorSums.j0 k t472 t498 ((!(t492 == bt500.1) || (!(t493 == bt500.2.1))) || ((!(t494 == bt500.2.2.1) || (!(t495 == bt500.2.2.2.1))) || ((!(t496 == bt500.2.2.2.2.1) || (!(t497 == bt500.2.2.2.2.2.1)))))) t452 t453 t454 t455 t456 t457 t458 t459 t460 t461 t462 t463 t466 t467 t468 t469 t470 t471 t482 t483 t484 t485 t486 t487) else (laws_FnVectorSums.j0 k t472 t498 true t452 t453 t454 t455 t456 t457 t458 t459 t460 t461 t462 t463 t466 t467 t468 t469 t470 t471 t482 t483 t484 t485 t486 t487))) else (laws_FnVectorSums.j0 k t472 t498 true t452 t453 t454 t455 t456 t457 t458 t459 t460 t461 t462 t463 t466 t467 t468 t469 t470 t471 t482 t483 t484 t485 t486 t487))) = some true := H
    have A8 := Aside0.mk A80
    clear A80
    replace H := Option.bind_eq_some_iff.mp H
    obtain ⟨⟨t500, t501, t502, t503, t504, t505, t506⟩, A90, H⟩ := H
    replace H : (if t472 = t480 then (if ((!(t466 == t474) || (!(t467 == t475))) || ((!(t468 == t476) || (!(t469 == t477))) || ((!(t470 == t478) || (!(t471 == t479)))))) = true then (laws_FnVectorSums.j0 k t472 t498 true t452 t453 t454 t455 t456 t457 t458 t459 t460 t461 t462 t463 t466 t467 t468 t469 t470 t471 t482 t483 t484 t485 t486 t487) else (if t498 = t506 then (laws_FnVectorSums.j0 k t472 t498 ((!(t492 == t500) || (!(t493 == t501))) || ((!(t494 == t502) || (!(t495 == t503))) || ((!(t496 == t504) || (!(t497 == t505)))))) t452 t453 t454 t455 t456 t457 t458 t459 t460 t461 t462 t463 t466 t467 t468 t469 t470 t471 t482 t483 t484 t485 t486 t487) else (laws_FnVectorSums.j0 k t472 t498 true t452 t453 t454 t455 t456 t457 t458 t459 t460 t461 t462 t463 t466 t467 t468 t469 t470 t471 t482 t483 t484 t485 t486 t487))) else (laws_FnVectorSums.j0 k t472 t498 true t452 t453 t454 t455 t456 t457 t458 t459 t460 t461 t462 t463 t466 t467 t468 t469 t470 t471 t482 t483 t484 t485 t486 t487)) = some true := H
    have A9 := Aside0.mk A90
    clear A90
    have HC10 := Aside0.mk H
    clear H
    go_enter Try.func8, Try.ntmps8
    go_upto_region 9 with (first | ((with_reducible refine gate_callee (f := 9) rfl ?_); refine goesL_ (some 20) rfl rfl Try.func9 (by kernel_rfl) rfl #[.slice A0 l0.length c0] rfl (by (try simp only [List.map_toArray, List.map_cons, List.map_nil]); first | done | rfl | (simp only [List.length_drop, List.length_take]; rfl)) ?_; (with_reducible refine (laws_big.calls _ _ l0 false _ ?side1 ?side2 A2.out).mono ?_); (case side1 => repeat (first | exact HR0.out | (with_reducible refine Kd.C_alloc ?_ _) | (with_reducible refine Kd.C_drewN ?_ _) | (with_reducible refine Kd.C_drew ?_))); (case side2 => exact HC0.out); rintro e w' ⟨rfl, ⟨nd, rfl⟩⟩; refine ⟨_, rfl, ?_⟩) | ((with_reducible refine gate_callee (f := 51) rfl ?_); refine goesL_ (some 23) rfl rfl Try.func51 (by kernel_rfl) rfl #[.slice A0 l0.length c0] rfl (by (try simp only [List.map_toArray, List.map_cons, List.map_nil]); first | done | rfl | (simp only [List.length_drop, List.length_take]; rfl)) ?_; (with_reducible refine (spec_DrawAddVectors.calls k _ _ l0 t452 t453 t454 t455 t456 t457 t458 t459 t460 t461 t462 t463 _ ?side1 ?side2 A4.out).mono ?_); (case side1 => repeat (first | exact HR0.out | (with_reducible refine Kd.C_alloc ?_ _) | (with_reducible refine Kd.C_drewN ?_ _) | (with_reducible refine Kd.C_drew ?_))); (case side2 => exact HC0.out); rintro e w11 ⟨rfl, hb⟩; refine ⟨_, rfl, ?_⟩; have n0_ := Aside0.mk (below_step (by repeat (first | (with_reducible first | exact HB.out | apply below_alloc | apply pw_below_drewN | apply below_drew1) | exact HB.out)) hb); clear HB; have HB := n0_; clear n0_; (try clear hb); (try clear hb2); (try clear hk); (try clear hi)) | ((with_reducible refine gate_dst (N := 3) rfl ?_); refine box_event ?hg (N := 3) ?hd (cs := #[.int .i64 0, .int .i64 0, .int .i64 0, .int .i64 0, .int .i64 0, .int .i64 0]) (t := 44) ?hr ?_; (case hd => rfl); (case hg => rfl); (case hr => first | (go_simp; done) | (go_simp; rfl)); intro gb464 hg w12 hbox hb; have n0_ := Aside0.mk (below_step (by repeat (first | (with_reducible first | exact HB.out | apply below_alloc | apply pw_below_drewN | apply below_drew1) | exact HB.out)) hb); have n1_ := Aside0.mk (hbox); have n2_ := Aside0.mk ((by rw [hg]; exact (below_size (by repeat (first | (with_reducible first | exact HB.out | apply below_alloc | apply pw_below_drewN | apply below_drew1) | exact HB.out))) : w.heap.size ≤ gb464)); have n3_ := Aside0.mk ((by rw [hg]; exact (below_size (by repeat (first | (with_reducible first | exact HB.out | apply below_alloc | apply pw_below_drewN | apply below_drew1) | exact HB.out))) : w.heap.size ≤ gb464)); clear HB; have HB := n0_; have BK464 := n1_; have GW464 := n2_; have GE464 := n3_; clear n0_ n1_ n2_ n3_; clear hb hbox hg) | ((with_reducible refine gate_dst (N := 4) rfl ?_); refine box_event ?hg (N := 4) ?hd (cs := #[.int .i64 0, .int .i64 0, .int .i64 0, .int .i64 0, .int .i64 0, .int .i64 0]) (t := 44) ?hr ?_; (case hd => rfl); (case hg => rfl); (case hr => first | (go_simp; done) | (go_simp; rfl)); intro gb465 hg w13 hbox hb; have n0_ := Aside0.mk (blk_below (g := gb464) (o := .cells #[.int .i64 0, .int .i64 0, .int .i64 0, .int .i64 0, .int .i64 0, .int .i64 0] 44 (0, 0)) (by (with_reducible repeat (first | refine blk_drewN ?_ _ | refine blk_drew ?_ | refine blk_alloc ?_ _)); exact BK464.out) hb); have n1_ := Aside0.mk (below_step (by repeat (first | (with_reducible first | exact HB.out | apply below_alloc | apply pw_below_drewN | apply below_drew1 | refine below_set ?_ GE464.out) | exact HB.out)) hb); have n2_ := Aside0.mk (hbox); have n3_ := Aside0.mk ((by rw [hg]; exact (below_size (by repeat (first | (with_reducible first | exact HB.out | apply below_alloc | apply pw_below_drewN | apply below_drew1 | refine below_set ?_ GE464.out) | exact HB.out))) : w.heap.size ≤ gb465)); have n4_ := Aside0.mk ((by rw [hg]; exact (below_size (by repeat (first | (with_reducible first | exact HB.out | apply below_alloc | apply pw_below_drewN | apply below_drew1 | refine below_set ?_ GE464.out) | exact HB.out))) : w.heap.size ≤ gb465)); have n5_ := Aside0.mk ((by rw [hg]; exact Nat.ne_of_lt (blk_lt (g := gb464) (o := .cells #[.int .i64 0, .int .i64 0, .int .i64 0, .int .i64 0, .int .i64 0, .int .i64 0] 44 (0, 0)) (by (with_reducible repeat (first | refine blk_drewN ?_ _ | refine blk_drew ?_ | refine blk_alloc ?_ _)); exact BK464.out)) : gb464 ≠ gb465)); have n6_ := Aside0.mk ((by rw [hg]; exact Nat.ne_of_gt (blk_lt (g := gb464) (o := .cells #[.int .i64 0, .int .i64 0, .int .i64 0, .int .i64 0, .int .i64 0, .int .i64 0] 44 (0, 0)) (by (with_reducible repeat (first | refine blk_drewN ?_ _ | refine blk_drew ?_ | refine blk_alloc ?_ _)); exact BK464.out)) : gb465 ≠ gb464)); clear BK464; clear HB; have BK464 := n0_; have HB := n1_; have BK465 := n2_; have GW465 := n3_; have GE465 := n4_; have NB464_465 := n5_; have NB465_464 := n6_; clear n0_ n1_ n2_ n3_ n4_ n5_ n6_; clear hb hbox hg; have hnb14 := NB464_465.out; have hnc14 := NB465_464.out; have hcz15_0 : w13.cell? ⟨gb464, 0, none⟩ = some (.int .i64 0) := (blk_cell BK464.out 0).trans rfl; have hcz15_1 : w13.cell? ⟨gb464, 1, none⟩ = some (.int .i64 0) := (blk_cell BK464.out 1).trans rfl; have hcz15_2 : w13.cell? ⟨gb464, 2, none⟩ = some (.int .i64 0) := (blk_cell BK464.out 2).trans rfl; have hcz15_3 : w13.cell? ⟨gb464, 3, none⟩ = some (.int .i64 0) := (blk_cell BK464.out 3).trans rfl; have hcz15_4 : w13.cell? ⟨gb464, 4, none⟩ = some (.int .i64 0) := (blk_cell BK464.out 4).trans rfl; have hcz15_5 : w13.cell? ⟨gb464, 5, none⟩ = some (.int .i64 0) := (blk_cell BK464.out 5).trans rfl; have hfz15_0 := blk_frozen BK464.out 0; have hfz15_1 := blk_frozen BK464.out 1; have hfz15_2 := blk_frozen BK464.out 2; have hfz15_3 := blk_frozen BK464.out 3; have hfz15_4 := blk_frozen BK464.out 4; have hfz15_5 := blk_frozen BK464.out 5; have hcz16_0 : w13.cell? ⟨gb465, 0, none⟩ = some (.int .i64 0) := (blk_cell BK465.out 0).trans rfl; have hcz16_1 : w13.cell? ⟨gb465, 1, none⟩ = some (.int .i64 0) := (blk_cell BK465.out 1).trans rfl; have hcz16_2 : w13.cell? ⟨gb465, 2, none⟩ = some (.int .i64 0) := (blk_cell BK465.out 2).trans rfl; have hcz16_3 : w13.cell? ⟨gb465, 3, none⟩ = some (.int .i64 0) := (blk_cell BK465.out 3).trans rfl; have hcz16_4 : w13.cell? ⟨gb465, 4, none⟩ = some (.int .i64 0) := (blk_cell BK465.out 4).trans rfl; have hcz16_5 : w13.cell? ⟨gb465, 5, none⟩ = some (.int .i64 0) := (blk_cell BK465.out 5).trans rfl; have hfz16_0 := blk_frozen BK465.out 0; have hfz16_1 := blk_frozen BK465.out 1; have hfz16_2 := blk_frozen BK465.out 2; have hfz16_3 := blk_frozen BK465.out 3; have hfz16_4 := blk_frozen BK465.out 4; have hfz16_5 := blk_frozen BK465.out 5) | ((with_reducible refine gate_callee (f := 52) rfl ?_); refine goesL_ (some 29) rfl rfl Try.func52 (by kernel_rfl) rfl #[.agg #[.int .i64 t452, .int .i64 t453, .int .i64 t454, .int .i64 t455, .int .i64 t456, .int .i64 t457], .agg #[.int .i64 t458, .int .i64 t459, .int .i64 t460, .int .i64 t461, .int .i64 t462, .int .i64 t463]] rfl (by (try simp only [List.map_toArray, List.map_cons, List.map_nil]); first | done | rfl | (simp only [List.length_drop, List.length_take]; rfl)) ?_; (with_reducible refine (impl_AddVectors.calls k t452 t453 t454 t455 t456 t457 t458 t459 t460 t461 t462 t463 t466 t467 t468 t469 t470 t471 t472 _ A5.out).mono ?_); rintro e w17 ⟨rfl, hb⟩; refine ⟨_, rfl, ?_⟩; have n0_ := Aside0.mk (blk_below (g := gb464) (o := .cells #[.int .i64 t452, .int .i64 t453, .int .i64 t454, .int .i64 t455, .int .i64 t456, .int .i64 t457] 44 (0, 0)) (by (with_reducible repeat (first | refine blk_drewN ?_ _ | refine blk_drew ?_ | refine blk_alloc ?_ _)); refine blk_far ?_ NB464_465.out _; (with_reducible repeat (first | refine blk_drewN ?_ _ | refine blk_drew ?_ | refine blk_alloc ?_ _)); refine blk_far ?_ NB464_465.out _; (with_reducible repeat (first | refine blk_drewN ?_ _ | refine blk_drew ?_ | refine blk_alloc ?_ _)); refine blk_far ?_ NB464_465.out _; (with_reducible repeat (first | refine blk_drewN ?_ _ | refine blk_drew ?_ | refine blk_alloc ?_ _)); refine blk_far ?_ NB464_465.out _; (with_reducible repeat (first | refine blk_drewN ?_ _ | refine blk_drew ?_ | refine blk_alloc ?_ _)); refine blk_far ?_ NB464_465.out _; (with_reducible repeat (first | refine blk_drewN ?_ _ | refine blk_drew ?_ | refine blk_alloc ?_ _)); refine blk_far ?_ NB464_465.out _; (with_reducible repeat (first | refine blk_drewN ?_ _ | refine blk_drew ?_ | refine blk_alloc ?_ _)); refine blk_put (cs := #[.int .i64 t452, .int .i64 t453, .int .i64 t454, .int .i64 t455, .int .i64 t456, .int .i64 0]) ?_ 5 _ rfl; (with_reducible repeat (first | refine blk_drewN ?_ _ | refine blk_drew ?_ | refine blk_alloc ?_ _)); refine blk_put (cs := #[.int .i64 t452, .int .i64 t453, .int .i64 t454, .int .i64 t455, .int .i64 0, .int .i64 0]) ?_ 4 _ rfl; (with_reducible repeat (first | refine blk_drewN ?_ _ | refine blk_drew ?_ | refine blk_alloc ?_ _)); refine blk_put (cs := #[.int .i64 t452, .int .i64 t453, .int .i64 t454, .int .i64 0, .int .i64 0, .int .i64 0]) ?_ 3 _ rfl; (with_reducible repeat (first | refine blk_drewN ?_ _ | refine blk_drew ?_ | refine blk_alloc ?_ _)); refine blk_put (cs := #[.int .i64 t452, .int .i64 t453, .int .i64 0, .int .i64 0, .int .i64 0, .int .i64 0]) ?_ 2 _ rfl; (with_reducible repeat (first | refine blk_drewN ?_ _ | refine blk_drew ?_ | refine blk_alloc ?_ _)); refine blk_put (cs := #[.int .i64 t452, .int .i64 0, .int .i64 0, .int .i64 0, .int .i64 0, .int .i64 0]) ?_ 1 _ rfl; (with_reducible repeat (first | refine blk_drewN ?_ _ | refine blk_drew ?_ | refine blk_alloc ?_ _)); refine blk_put (cs := #[.int .i64 0, .int .i64 0, .int .i64 0, .int .i64 0, .int .i64 0, .int .i64 0]) ?_ 0 _ rfl; (with_reducible repeat (first | refine blk_drewN ?_ _ | refine blk_drew ?_ | refine blk_alloc ?_ _)); exact BK464.out) hb); have n1_ := Aside0.mk (blk_below (g := gb465) (o := .cells #[.int .i64 t458, .int .i64 t459, .int .i64 t460, .int .i64 t461, .int .i64 t462, .int .i64 t463] 44 (0, 0)) (by (with_reducible repeat (first | refine blk_drewN ?_ _ | refine blk_drew ?_ | refine blk_alloc ?_ _)); refine blk_put (cs := #[.int .i64 t458, .int .i64 t459, .int .i64 t460, .int .i64 t461, .int .i64 t462, .int .i64 0]) ?_ 5 _ rfl; (with_reducible repeat (first | refine blk_drewN ?_ _ | refine blk_drew ?_ | refine blk_alloc ?_ _)); refine blk_put (cs := #[.int .i64 t458, .int .i64 t459, .int .i64 t460, .int .i64 t461, .int .i64 0, .int .i64 0]) ?_ 4 _ rfl; (with_reducible repeat (first | refine blk_drewN ?_ _ | refine blk_drew ?_ | refine blk_alloc ?_ _)); refine blk_put (cs := #[.int .i64 t458, .int .i64 t459, .int .i64 t460, .int .i64 0, .int .i64 0, .int .i64 0]) ?_ 3 _ rfl; (with_reducible repeat (first | refine blk_drewN ?_ _ | refine blk_drew ?_ | refine blk_alloc ?_ _)); refine blk_put (cs := #[.int .i64 t458, .int .i64 t459, .int .i64 0, .int .i64 0, .int .i64 0, .int .i64 0]) ?_ 2 _ rfl; (with_reducible repeat (first | refine blk_drewN ?_ _ | refine blk_drew ?_ | refine blk_alloc ?_ _)); refine blk_put (cs := #[.int .i64 t458, .int .i64 0, .int .i64 0, .int .i64 0, .int .i64 0, .int .i64 0]) ?_ 1 _ rfl; (with_reducible repeat (first | refine blk_drewN ?_ _ | refine blk_drew ?_ | refine blk_alloc ?_ _)); refine blk_put (cs := #[.int .i64 0, .int .i64 0, .int .i64 0, .int .i64 0, .int .i64 0, .int .i64 0]) ?_ 0 _ rfl; (with_reducible repeat (first | refine blk_drewN ?_ _ | refine blk_drew ?_ | refine blk_alloc ?_ _)); refine blk_far ?_ NB465_464.out _; (with_reducible repeat (first | refine blk_drewN ?_ _ | refine blk_drew ?_ | refine blk_alloc ?_ _)); refine blk_far ?_ NB465_464.out _; (with_reducible repeat (first | refine blk_drewN ?_ _ | refine blk_drew ?_ | refine blk_alloc ?_ _)); refine blk_far ?_ NB465_464.out _; (with_reducible repeat (first | refine blk_drewN ?_ _ | refine blk_drew ?_ | refine blk_alloc ?_ _)); refine blk_far ?_ NB465_464.out _; (with_reducible repeat (first | refine blk_drewN ?_ _ | refine blk_drew ?_ | refine blk_alloc ?_ _)); refine blk_far ?_ NB465_464.out _; (with_reducible repeat (first | refine blk_drewN ?_ _ | refine blk_drew ?_ | refine blk_alloc ?_ _)); refine blk_far ?_ NB465_464.out _; (with_reducible repeat (first | refine blk_drewN ?_ _ | refine blk_drew ?_ | refine blk_alloc ?_ _)); exact BK465.out) hb); have n2_ := Aside0.mk (below_step (by repeat (first | (with_reducible first | exact HB.out | apply below_alloc | apply pw_below_drewN | apply below_drew1 | refine below_set ?_ GE464.out | refine below_set ?_ GE465.out) | exact HB.out)) hb); clear BK464; clear BK465; clear HB; have BK464 := n0_; have BK465 := n1_; have HB := n2_; clear n0_ n1_ n2_; (try clear hb); (try clear hb2); (try clear hk); (try clear hi)) | ((with_reducible refine gate_dst (N := 5) rfl ?_); refine box_event ?hg (N := 5) ?hd (cs := #[.int .i64 0, .int .i64 0, .int .i64 0, .int .i64 0, .int .i64 0, .int .i64 0]) (t := 44) ?hr ?_; (case hd => rfl); (case hg => rfl); (case hr => first | (go_simp; done) | (go_simp; rfl)); intro gb473 hg w18 hbox hb; have n0_ := Aside0.mk (blk_below (g := gb464) (o := .cells #[.int .i64 t452, .int .i64 t453, .int .i64 t454, .int .i64 t455, .int .i64 t456, .int .i64 t457] 44 (0, 0)) (by (with_reducible repeat (first | refine blk_drewN ?_ _ | refine blk_drew ?_ | refine blk_alloc ?_ _)); exact BK464.out) hb); have n1_ := Aside0.mk (blk_below (g := gb465) (o := .cells #[.int .i64 t458, .int .i64 t459, .int .i64 t460, .int .i64 t461, .int .i64 t462, .int .i64 t463] 44 (0, 0)) (by (with_reducible repeat (first | refine blk_drewN ?_ _ | refine blk_drew ?_ | refine blk_alloc ?_ _)); exact BK465.out) hb); have n2_ := Aside0.mk (below_step (by repeat (first | (with_reducible first | exact HB.out | apply below_alloc | apply pw_below_drewN | apply below_drew1 | refine below_set ?_ GE464.out | refine below_set ?_ GE465.out) | exact HB.out)) hb); have n3_ := Aside0.mk (hbox); have n4_ := Aside0.mk ((by rw [hg]; exact (below_size (by repeat (first | (with_reducible first | exact HB.out | apply below_alloc | apply pw_below_drewN | apply below_drew1 | refine below_set ?_ GE464.out | refine below_set ?_ GE465.out) | exact HB.out))) : w.heap.size ≤ gb473)); have n5_ := Aside0.mk ((by rw [hg]; exact (below_size (by repeat (first | (with_reducible first | exact HB.out | apply below_alloc | apply pw_below_drewN | apply below_drew1 | refine below_set ?_ GE464.out | refine below_set ?_ GE465.out) | exact HB.out))) : w.heap.size ≤ gb473)); have n6_ := Aside0.mk ((by rw [hg]; exact Nat.ne_of_lt (blk_lt (g := gb464) (o := .cells #[.int .i64 t452, .int .i64 t453, .int .i64 t454, .int .i64 t455, .int .i64 t456, .int .i64 t457] 44 (0, 0)) (by (with_reducible repeat (first | refine blk_drewN ?_ _ | refine blk_drew ?_ | refine blk_alloc ?_ _)); exact BK464.out)) : gb464 ≠ gb473)); have n7_ := Aside0.mk ((by rw [hg]; exact Nat.ne_of_gt (blk_lt (g := gb464) (o := .cells #[.int .i64 t452, .int .i64 t453, .int .i64 t454, .int .i64 t455, .int .i64 t456, .int .i64 t457] 44 (0, 0)) (by (with_reducible repeat (first | refine blk_drewN ?_ _ | refine blk_drew ?_ | refine blk_alloc ?_ _)); exact BK464.out)) : gb473 ≠ gb464)); have n8_ := Aside0.mk ((by rw [hg]; exact Nat.ne_of_lt (blk_lt (g := gb465) (o := .cells #[.int .i64 t458, .int .i64 t459, .int .i64 t460, .int .i64 t461, .int .i64 t462, .int .i64 t463] 44 (0, 0)) (by (with_reducible repeat (first | refine blk_drewN ?_ _ | refine blk_drew ?_ | refine blk_alloc ?_ _)); exact BK465.out)) : gb465 ≠ gb473)); have n9_ := Aside0.mk ((by rw [hg]; exact Nat.ne_of_gt (blk_lt (g := gb465) (o := .cells #[.int .i64 t458, .int .i64 t459, .int .i64 t460, .int .i64 t461, .int .i64 t462, .int .i64 t463] 44 (0, 0)) (by (with_reducible repeat (first | refine blk_drewN ?_ _ | refine blk_drew ?_ | refine blk_alloc ?_ _)); exact BK465.out)) : gb473 ≠ gb465)); clear BK464; clear BK465; clear HB; have BK464 := n0_; have BK465 := n1_; have HB := n2_; have BK473 := n3_; have GW473 := n4_; have GE473 := n5_; have NB464_473 := n6_; have NB473_464 := n7_; have NB465_473 := n8_; have NB473_465 := n9_; clear n0_ n1_ n2_ n3_ n4_ n5_ n6_ n7_ n8_ n9_; clear hb hbox hg; have hnb19 := NB473_464.out; have hnc19 := NB464_473.out; have hnb20 := NB473_465.out; have hnc20 := NB465_473.out; have hcz21_0 : w18.cell? ⟨gb473, 0, none⟩ = some (.int .i64 0) := (blk_cell BK473.out 0).trans rfl; have hcz21_1 : w18.cell? ⟨gb473, 1, none⟩ = some (.int .i64 0) := (blk_cell BK473.out 1).trans rfl; have hcz21_2 : w18.cell? ⟨gb473, 2, none⟩ = some (.int .i64 0) := (blk_cell BK473.out 2).trans rfl; have hcz21_3 : w18.cell? ⟨gb473, 3, none⟩ = some (.int .i64 0) := (blk_cell BK473.out 3).trans rfl; have hcz21_4 : w18.cell? ⟨gb473, 4, none⟩ = some (.int .i64 0) := (blk_cell BK473.out 4).trans rfl; have hcz21_5 : w18.cell? ⟨gb473, 5, none⟩ = some (.int .i64 0) := (blk_cell BK473.out 5).trans rfl; have hfz21_0 := blk_frozen BK473.out 0; have hfz21_1 := blk_frozen BK473.out 1; have hfz21_2 := blk_frozen BK473.out 2; have hfz21_3 := blk_frozen BK473.out 3; have hfz21_4 := blk_frozen BK473.out 4; have hfz21_5 := blk_frozen BK473.out 5; have hcz22_0 : w18.cell? ⟨gb464, 0, none⟩ = some (.int .i64 t452) := (blk_cell BK464.out 0).trans rfl; have hcz22_1 : w18.cell? ⟨gb464, 1, none⟩ = some (.int .i64 t453) := (blk_cell BK464.out 1).trans rfl; have hcz22_2 : w18.cell? ⟨gb464, 2, none⟩ = some (.int .i64 t454) := (blk_cell BK464.out 2).trans rfl; have hcz22_3 : w18.cell? ⟨gb464, 3, none⟩ = some (.int .i64 t455) := (blk_cell BK464.out 3).trans rfl; have hcz22_4 : w18.cell? ⟨gb464, 4, none⟩ = some (.int .i64 t456) := (blk_cell BK464.out 4).trans rfl; have hcz22_5 : w18.cell? ⟨gb464, 5, none⟩ = some (.int .i64 t457) := (blk_cell BK464.out 5).trans rfl; have hfz22_0 := blk_frozen BK464.out 0; have hfz22_1 := blk_frozen BK464.out 1; have hfz22_2 := blk_frozen BK464.out 2; have hfz22_3 := blk_frozen BK464.out 3; have hfz22_4 := blk_frozen BK464.out 4; have hfz22_5 := blk_frozen BK464.out 5; have hcz23_0 : w18.cell? ⟨gb465, 0, none⟩ = some (.int .i64 t458) := (blk_cell BK465.out 0).trans rfl; have hcz23_1 : w18.cell? ⟨gb465, 1, none⟩ = some (.int .i64 t459) := (blk_cell BK465.out 1).trans rfl; have hcz23_2 : w18.cell? ⟨gb465, 2, none⟩ = some (.int .i64 t460) := (blk_cell BK465.out 2).trans rfl; have hcz23_3 : w18.cell? ⟨gb465, 3, none⟩ = some (.int .i64 t461) := (blk_cell BK465.out 3).trans rfl; have hcz23_4 : w18.cell? ⟨gb465, 4, none⟩ = some (.int .i64 t462) := (blk_cell BK465.out 4).trans rfl; have hcz23_5 : w18.cell? ⟨gb465, 5, none⟩ = some (.int .i64 t463) := (blk_cell BK465.out 5).trans rfl; have hfz23_0 := blk_frozen BK465.out 0; have hfz23_1 := blk_frozen BK465.out 1; have hfz23_2 := blk_frozen BK465.out 2; have hfz23_3 := blk_frozen BK465.out 3; have hfz23_4 := blk_frozen BK465.out 4; have hfz23_5 := blk_frozen BK465.out 5) | ((with_reducible refine gate_callee (f := 53) rfl ?_); refine goesL_ (some 35) rfl rfl Try.func53 (by kernel_rfl) rfl #[.agg #[.int .i64 t452, .int .i64 t453, .int .i64 t454, .int .i64 t455, .int .i64 t456, .int .i64 t457], .agg #[.int .i64 t458, .int .i64 t459, .int .i64 t460, .int .i64 t461, .int .i64 t462, .int .i64 t463]] rfl (by (try simp only [List.map_toArray, List.map_cons, List.map_nil]); first | done | rfl | (simp only [List.length_drop, List.length_take]; rfl)) ?_; (with_reducible refine (spec_AddVectors.calls k t452 t453 t454 t455 t456 t457 t458 t459 t460 t461 t462 t463 t474 t475 t476 t477 t478 t479 t480 _ A6.out).mono ?_); rintro e w24 ⟨rfl, hb⟩; refine ⟨_, rfl, ?_⟩; have n0_ := Aside0.mk (blk_below (g := gb464) (o := .cells #[.int .i64 t452, .int .i64 t453, .int .i64 t454, .int .i64 t455, .int .i64 t456, .int .i64 t457] 44 (0, 0)) (by (with_reducible repeat (first | refine blk_drewN ?_ _ | refine blk_drew ?_ | refine blk_alloc ?_ _)); refine blk_far ?_ NB464_473.out _; (with_reducible repeat (first | refine blk_drewN ?_ _ | refine blk_drew ?_ | refine blk_alloc ?_ _)); refine blk_far ?_ NB464_473.out _; (with_reducible repeat (first | refine blk_drewN ?_ _ | refine blk_drew ?_ | refine blk_alloc ?_ _)); refine blk_far ?_ NB464_473.out _; (with_reducible repeat (first | refine blk_drewN ?_ _ | refine blk_drew ?_ | refine blk_alloc ?_ _)); refine blk_far ?_ NB464_473.out _; (with_reducible repeat (first | refine blk_drewN ?_ _ | refine blk_drew ?_ | refine blk_alloc ?_ _)); refine blk_far ?_ NB464_473.out _; (with_reducible repeat (first | refine blk_drewN ?_ _ | refine blk_drew ?_ | refine blk_alloc ?_ _)); refine blk_far ?_ NB464_473.out _; (with_reducible repeat (first | refine blk_drewN ?_ _ | refine blk_drew ?_ | refine blk_alloc ?_ _)); exact BK464.out) hb); have n1_ := Aside0.mk (blk_below (g := gb465) (o := .cells #[.int .i64 t458, .int .i64 t459, .int .i64 t460, .int .i64 t461, .int .i64 t462, .int .i64 t463] 44 (0, 0)) (by (with_reducible repeat (first | refine blk_drewN ?_ _ | refine blk_drew ?_ | refine blk_alloc ?_ _)); refine blk_far ?_ NB465_473.out _; (with_reducible repeat (first | refine blk_drewN ?_ _ | refine blk_drew ?_ | refine blk_alloc ?_ _)); refine blk_far ?_ NB465_473.out _; (with_reducible repeat (first | refine blk_drewN ?_ _ | refine blk_drew ?_ | refine blk_alloc ?_ _)); refine blk_far ?_ NB465_473.out _; (with_reducible repeat (first | refine blk_drewN ?_ _ | refine blk_drew ?_ | refine blk_alloc ?_ _)); refine blk_far ?_ NB465_473.out _; (with_reducible repeat (first | refine blk_drewN ?_ _ | refine blk_drew ?_ | refine blk_alloc ?_ _)); refine blk_far ?_ NB465_473.out _; (with_reducible repeat (first | refine blk_drewN ?_ _ | refine blk_drew ?_ | refine blk_alloc ?_ _)); refine blk_far ?_ NB465_473.out _; (with_reducible repeat (first | refine blk_drewN ?_ _ | refine blk_drew ?_ | refine blk_alloc ?_ _)); exact BK465.out) hb); have n2_ := Aside0.mk (blk_below (g := gb473) (o := .cells #[.int .i64 t466, .int .i64 t467, .int .i64 t468, .int .i64 t469, .int .i64 t470, .int .i64 t471] 44 (0, 0)) (by (with_reducible repeat (first | refine blk_drewN ?_ _ | refine blk_drew ?_ | refine blk_alloc ?_ _)); refine blk_put (cs := #[.int .i64 t466, .int .i64 t467, .int .i64 t468, .int .i64 t469, .int .i64 t470, .int .i64 0]) ?_ 5 _ rfl; (with_reducible repeat (first | refine blk_drewN ?_ _ | refine blk_drew ?_ | refine blk_alloc ?_ _)); refine blk_put (cs := #[.int .i64 t466, .int .i64 t467, .int .i64 t468, .int .i64 t469, .int .i64 0, .int .i64 0]) ?_ 4 _ rfl; (with_reducible repeat (first | refine blk_drewN ?_ _ | refine blk_drew ?_ | refine blk_alloc ?_ _)); refine blk_put (cs := #[.int .i64 t466, .int .i64 t467, .int .i64 t468, .int .i64 0, .int .i64 0, .int .i64 0]) ?_ 3 _ rfl; (with_reducible repeat (first | refine blk_drewN ?_ _ | refine blk_drew ?_ | refine blk_alloc ?_ _)); refine blk_put (cs := #[.int .i64 t466, .int .i64 t467, .int .i64 0, .int .i64 0, .int .i64 0, .int .i64 0]) ?_ 2 _ rfl; (with_reducible repeat (first | refine blk_drewN ?_ _ | refine blk_drew ?_ | refine blk_alloc ?_ _)); refine blk_put (cs := #[.int .i64 t466, .int .i64 0, .int .i64 0, .int .i64 0, .int .i64 0, .int .i64 0]) ?_ 1 _ rfl; (with_reducible repeat (first | refine blk_drewN ?_ _ | refine blk_drew ?_ | refine blk_alloc ?_ _)); refine blk_put (cs := #[.int .i64 0, .int .i64 0, .int .i64 0, .int .i64 0, .int .i64 0, .int .i64 0]) ?_ 0 _ rfl; (with_reducible repeat (first | refine blk_drewN ?_ _ | refine blk_drew ?_ | refine blk_alloc ?_ _)); exact BK473.out) hb); have n3_ := Aside0.mk (below_step (by repeat (first | (with_reducible first | exact HB.out | apply below_alloc | apply pw_below_drewN | apply below_drew1 | refine below_set ?_ GE464.out | refine below_set ?_ GE465.out | refine below_set ?_ GE473.out) | exact HB.out)) hb); clear BK464; clear BK465; clear BK473; clear HB; have BK464 := n0_; have BK465 := n1_; have BK473 := n2_; have HB := n3_; clear n0_ n1_ n2_ n3_; (try clear hb); (try clear hb2); (try clear hk); (try clear hi)) | ((with_reducible refine gate_dst (N := 7) rfl ?_); refine box_event ?hg (N := 7) ?hd (cs := #[.int .i64 0, .int .i64 0, .int .i64 0, .int .i64 0, .int .i64 0, .int .i64 0]) (t := 44) ?hr ?_; (case hd => rfl); (case hg => rfl); (case hr => first | (go_simp; done) | (go_simp; rfl)); intro gb481 hg w25 hbox hb; have n0_ := Aside0.mk (blk_below (g := gb464) (o := .cells #[.int .i64 t452, .int .i64 t453, .int .i64 t454, .int .i64 t455, .int .i64 t456, .int .i64 t457] 44 (0, 0)) (by (with_reducible repeat (first | refine blk_drewN ?_ _ | refine blk_drew ?_ | refine blk_alloc ?_ _)); exact BK464.out) hb); have n1_ := Aside0.mk (blk_below (g := gb465) (o := .cells #[.int .i64 t458, .int .i64 t459, .int .i64 t460, .int .i64 t461, .int .i64 t462, .int .i64 t463] 44 (0, 0)) (by (with_reducible repeat (first | refine blk_drewN ?_ _ | refine blk_drew ?_ | refine blk_alloc ?_ _)); exact BK465.out) hb); have n2_ := Aside0.mk (blk_below (g := gb473) (o := .cells #[.int .i64 t466, .int .i64 t467, .int .i64 t468, .int .i64 t469, .int .i64 t470, .int .i64 t471] 44 (0, 0)) (by (with_reducible repeat (first | refine blk_drewN ?_ _ | refine blk_drew ?_ | refine blk_alloc ?_ _)); exact BK473.out) hb); have n3_ := Aside0.mk (below_step (by repeat (first | (with_reducible first | exact HB.out | apply below_alloc | apply pw_below_drewN | apply below_drew1 | refine below_set ?_ GE464.out | refine below_set ?_ GE465.out | refine below_set ?_ GE473.out) | exact HB.out)) hb); have n4_ := Aside0.mk (hbox); have n5_ := Aside0.mk ((by rw [hg]; exact (below_size (by repeat (first | (with_reducible first | exact HB.out | apply below_alloc | apply pw_below_drewN | apply below_drew1 | refine below_set ?_ GE464.out | refine below_set ?_ GE465.out | refine below_set ?_ GE473.out) | exact HB.out))) : w.heap.size ≤ gb481)); have n6_ := Aside0.mk ((by rw [hg]; exact (below_size (by repeat (first | (with_reducible first | exact HB.out | apply below_alloc | apply pw_below_drewN | apply below_drew1 | refine below_set ?_ GE464.out | refine below_set ?_ GE465.out | refine below_set ?_ GE473.out) | exact HB.out))) : w.heap.size ≤ gb481)); have n7_ := Aside0.mk ((by rw [hg]; exact Nat.ne_of_lt (blk_lt (g := gb464) (o := .cells #[.int .i64 t452, .int .i64 t453, .int .i64 t454, .int .i64 t455, .int .i64 t456, .int .i64 t457] 44 (0, 0)) (by (with_reducible repeat (first | refine blk_drewN ?_ _ | refine blk_drew ?_ | refine blk_alloc ?_ _)); exact BK464.out)) : gb464 ≠ gb481)); have n8_ := Aside0.mk ((by rw [hg]; exact Nat.ne_of_gt (blk_lt (g := gb464) (o := .cells #[.int .i64 t452, .int .i64 t453, .int .i64 t454, .int .i64 t455, .int .i64 t456, .int .i64 t457] 44 (0, 0)) (by (with_reducible repeat (first | refine blk_drewN ?_ _ | refine blk_drew ?_ | refine blk_alloc ?_ _)); exact BK464.out)) : gb481 ≠ gb464)); have n9_ := Aside0.mk ((by rw [hg]; exact Nat.ne_of_lt (blk_lt (g := gb465) (o := .cells #[.int .i64 t458, .int .i64 t459, .int .i64 t460, .int .i64 t461, .int .i64 t462, .int .i64 t463] 44 (0, 0)) (by (with_reducible repeat (first | refine blk_drewN ?_ _ | refine blk_drew ?_ | refine blk_alloc ?_ _)); exact BK465.out)) : gb465 ≠ gb481)); have n10_ := Aside0.mk ((by rw [hg]; exact Nat.ne_of_gt (blk_lt (g := gb465) (o := .cells #[.int .i64 t458, .int .i64 t459, .int .i64 t460, .int .i64 t461, .int .i64 t462, .int .i64 t463] 44 (0, 0)) (by (with_reducible repeat (first | refine blk_drewN ?_ _ | refine blk_drew ?_ | refine blk_alloc ?_ _)); exact BK465.out)) : gb481 ≠ gb465)); have n11_ := Aside0.mk ((by rw [hg]; exact Nat.ne_of_lt (blk_lt (g := gb473) (o := .cells #[.int .i64 t466, .int .i64 t467, .int .i64 t468, .int .i64 t469, .int .i64 t470, .int .i64 t471] 44 (0, 0)) (by (with_reducible repeat (first | refine blk_drewN ?_ _ | refine blk_drew ?_ | refine blk_alloc ?_ _)); exact BK473.out)) : gb473 ≠ gb481)); have n12_ := Aside0.mk ((by rw [hg]; exact Nat.ne_of_gt (blk_lt (g := gb473) (o := .cells #[.int .i64 t466, .int .i64 t467, .int .i64 t468, .int .i64 t469, .int .i64 t470, .int .i64 t471] 44 (0, 0)) (by (with_reducible repeat (first | refine blk_drewN ?_ _ | refine blk_drew ?_ | refine blk_alloc ?_ _)); exact BK473.out)) : gb481 ≠ gb473)); clear BK464; clear BK465; clear BK473; clear HB; have BK464 := n0_; have BK465 := n1_; have BK473 := n2_; have HB := n3_; have BK481 := n4_; have GW481 := n5_; have GE481 := n6_; have NB464_481 := n7_; have NB481_464 := n8_; have NB465_481 := n9_; have NB481_465 := n10_; have NB473_481 := n11_; have NB481_473 := n12_; clear n0_ n1_ n2_ n3_ n4_ n5_ n6_ n7_ n8_ n9_ n10_ n11_ n12_; clear hb hbox hg; have hnb26 := NB481_464.out; have hnc26 := NB464_481.out; have hnb27 := NB481_465.out; have hnc27 := NB465_481.out; have hnb28 := NB481_473.out; have hnc28 := NB473_481.out; have hcz29_0 : w25.cell? ⟨gb481, 0, none⟩ = some (.int .i64 0) := (blk_cell BK481.out 0).trans rfl; have hcz29_1 : w25.cell? ⟨gb481, 1, none⟩ = some (.int .i64 0) := (blk_cell BK481.out 1).trans rfl; have hcz29_2 : w25.cell? ⟨gb481, 2, none⟩ = some (.int .i64 0) := (blk_cell BK481.out 2).trans rfl; have hcz29_3 : w25.cell? ⟨gb481, 3, none⟩ = some (.int .i64 0) := (blk_cell BK481.out 3).trans rfl; have hcz29_4 : w25.cell? ⟨gb481, 4, none⟩ = some (.int .i64 0) := (blk_cell BK481.out 4).trans rfl; have hcz29_5 : w25.cell? ⟨gb481, 5, none⟩ = some (.int .i64 0) := (blk_cell BK481.out 5).trans rfl; have hfz29_0 := blk_frozen BK481.out 0; have hfz29_1 := blk_frozen BK481.out 1; have hfz29_2 := blk_frozen BK481.out 2; have hfz29_3 := blk_frozen BK481.out 3; have hfz29_4 := blk_frozen BK481.out 4; have hfz29_5 := blk_frozen BK481.out 5) | ((with_reducible refine gate_callee (f := 54) rfl ?_); refine goesL_ (some 40) rfl rfl Try.func54 (by kernel_rfl) rfl #[.slice A0 l0.length c0] rfl (by (try simp only [List.map_toArray, List.map_cons, List.map_nil]); first | done | rfl | (simp only [List.length_drop, List.length_take]; rfl)) ?_; (with_reducible refine (spec_DrawScaleVector.calls k _ _ l0 t482 t483 t484 t485 t486 t487 t488 t489 _ ?side1 ?side2 A7.out).mono ?_); (case side1 => exact Kd.C_below HR0.out (by repeat (first | (with_reducible first | exact HB.out | apply below_alloc | apply pw_below_drewN | apply below_drew1 | refine below_set ?_ GE464.out | refine below_set ?_ GE465.out | refine below_set ?_ GE473.out | refine below_set ?_ GE481.out) | exact HB.out))); (case side2 => exact HC0.out); rintro e w30 ⟨rfl, hb⟩; refine ⟨_, rfl, ?_⟩; have n0_ := Aside0.mk (blk_below (g := gb464) (o := .cells #[.int .i64 t452, .int .i64 t453, .int .i64 t454, .int .i64 t455, .int .i64 t456, .int .i64 t457] 44 (0, 0)) (by (with_reducible repeat (first | refine blk_drewN ?_ _ | refine blk_drew ?_ | refine blk_alloc ?_ _)); refine blk_far ?_ NB464_481.out _; (with_reducible repeat (first | refine blk_drewN ?_ _ | refine blk_drew ?_ | refine blk_alloc ?_ _)); refine blk_far ?_ NB464_481.out _; (with_reducible repeat (first | refine blk_drewN ?_ _ | refine blk_drew ?_ | refine blk_alloc ?_ _)); refine blk_far ?_ NB464_481.out _; (with_reducible repeat (first | refine blk_drewN ?_ _ | refine blk_drew ?_ | refine blk_alloc ?_ _)); refine blk_far ?_ NB464_481.out _; (with_reducible repeat (first | refine blk_drewN ?_ _ | refine blk_drew ?_ | refine blk_alloc ?_ _)); refine blk_far ?_ NB464_481.out _; (with_reducible repeat (first | refine blk_drewN ?_ _ | refine blk_drew ?_ | refine blk_alloc ?_ _)); refine blk_far ?_ NB464_481.out _; (with_reducible repeat (first | refine blk_drewN ?_ _ | refine blk_drew ?_ | refine blk_alloc ?_ _)); exact BK464.out) hb); have n1_ := Aside0.mk (blk_below (g := gb465) (o := .cells #[.int .i64 t458, .int .i64 t459, .int .i64 t460, .int .i64 t461, .int .i64 t462, .int .i64 t463] 44 (0, 0)) (by (with_reducible repeat (first | refine blk_drewN ?_ _ | refine blk_drew ?_ | refine blk_alloc ?_ _)); refine blk_far ?_ NB465_481.out _; (with_reducible repeat (first | refine blk_drewN ?_ _ | refine blk_drew ?_ | refine blk_alloc ?_ _)); refine blk_far ?_ NB465_481.out _; (with_reducible repeat (first | refine blk_drewN ?_ _ | refine blk_drew ?_ | refine blk_alloc ?_ _)); refine blk_far ?_ NB465_481.out _; (with_reducible repeat (first | refine blk_drewN ?_ _ | refine blk_drew ?_ | refine blk_alloc ?_ _)); refine blk_far ?_ NB465_481.out _; (with_reducible repeat (first | refine blk_drewN ?_ _ | refine blk_drew ?_ | refine blk_alloc ?_ _)); refine blk_far ?_ NB465_481.out _; (with_reducible repeat (first | refine blk_drewN ?_ _ | refine blk_drew ?_ | refine blk_alloc ?_ _)); refine blk_far ?_ NB465_481.out _; (with_reducible repeat (first | refine blk_drewN ?_ _ | refine blk_drew ?_ | refine blk_alloc ?_ _)); exact BK465.out) hb); have n2_ := Aside0.mk (blk_below (g := gb473) (o := .cells #[.int .i64 t466, .int .i64 t467, .int .i64 t468, .int .i64 t469, .int .i64 t470, .int .i64 t471] 44 (0, 0)) (by (with_reducible repeat (first | refine blk_drewN ?_ _ | refine blk_drew ?_ | refine blk_alloc ?_ _)); refine blk_far ?_ NB473_481.out _; (with_reducible repeat (first | refine blk_drewN ?_ _ | refine blk_drew ?_ | refine blk_alloc ?_ _)); refine blk_far ?_ NB473_481.out _; (with_reducible repeat (first | refine blk_drewN ?_ _ | refine blk_drew ?_ | refine blk_alloc ?_ _)); refine blk_far ?_ NB473_481.out _; (with_reducible repeat (first | refine blk_drewN ?_ _ | refine blk_drew ?_ | refine blk_alloc ?_ _)); refine blk_far ?_ NB473_481.out _; (with_reducible repeat (first | refine blk_drewN ?_ _ | refine blk_drew ?_ | refine blk_alloc ?_ _)); refine blk_far ?_ NB473_481.out _; (with_reducible repeat (first | refine blk_drewN ?_ _ | refine blk_drew ?_ | refine blk_alloc ?_ _)); refine blk_far ?_ NB473_481.out _; (with_reducible repeat (first | refine blk_drewN ?_ _ | refine blk_drew ?_ | refine blk_alloc ?_ _)); exact BK473.out) hb); have n3_ := Aside0.mk (blk_below (g := gb481) (o := .cells #[.int .i64 t474, .int .i64 t475, .int .i64 t476, .int .i64 t477, .int .i64 t478, .int .i64 t479] 44 (0, 0)) (by (with_reducible repeat (first | refine blk_drewN ?_ _ | refine blk_drew ?_ | refine blk_alloc ?_ _)); refine blk_put (cs := #[.int .i64 t474, .int .i64 t475, .int .i64 t476, .int .i64 t477, .int .i64 t478, .int .i64 0]) ?_ 5 _ rfl; (with_reducible repeat (first | refine blk_drewN ?_ _ | refine blk_drew ?_ | refine blk_alloc ?_ _)); refine blk_put (cs := #[.int .i64 t474, .int .i64 t475, .int .i64 t476, .int .i64 t477, .int .i64 0, .int .i64 0]) ?_ 4 _ rfl; (with_reducible repeat (first | refine blk_drewN ?_ _ | refine blk_drew ?_ | refine blk_alloc ?_ _)); refine blk_put (cs := #[.int .i64 t474, .int .i64 t475, .int .i64 t476, .int .i64 0, .int .i64 0, .int .i64 0]) ?_ 3 _ rfl; (with_reducible repeat (first | refine blk_drewN ?_ _ | refine blk_drew ?_ | refine blk_alloc ?_ _)); refine blk_put (cs := #[.int .i64 t474, .int .i64 t475, .int .i64 0, .int .i64 0, .int .i64 0, .int .i64 0]) ?_ 2 _ rfl; (with_reducible repeat (first | refine blk_drewN ?_ _ | refine blk_drew ?_ | refine blk_alloc ?_ _)); refine blk_put (cs := #[.int .i64 t474, .int .i64 0, .int .i64 0, .int .i64 0, .int .i64 0, .int .i64 0]) ?_ 1 _ rfl; (with_reducible repeat (first | refine blk_drewN ?_ _ | refine blk_drew ?_ | refine blk_alloc ?_ _)); refine blk_put (cs := #[.int .i64 0, .int .i64 0, .int .i64 0, .int .i64 0, .int .i64 0, .int .i64 0]) ?_ 0 _ rfl; (with_reducible repeat (first | refine blk_drewN ?_ _ | refine blk_drew ?_ | refine blk_alloc ?_ _)); exact BK481.out) hb); have n4_ := Aside0.mk (below_step (by repeat (first | (with_reducible first | exact HB.out | apply below_alloc | apply pw_below_drewN | apply below_drew1 | refine below_set ?_ GE464.out | refine below_set ?_ GE465.out | refine below_set ?_ GE473.out | refine below_set ?_ GE481.out) | exact HB.out)) hb); clear BK464; clear BK465; clear BK473; clear BK481; clear HB; have BK464 := n0_; have BK465 := n1_; have BK473 := n2_; have BK481 := n3_; have HB := n4_; clear n0_ n1_ n2_ n3_ n4_; (try clear hb); (try clear hb2); (try clear hk); (try clear hi)) | ((with_reducible refine gate_dst (N := 9) rfl ?_); refine box_event ?hg (N := 9) ?hd (cs := #[.int .i64 0, .int .i64 0, .int .i64 0, .int .i64 0, .int .i64 0, .int .i64 0]) (t := 44) ?hr ?_; (case hd => rfl); (case hg => rfl); (case hr => first | (go_simp; done) | (go_simp; rfl)); intro gb490 hg w31 hbox hb; have n0_ := Aside0.mk (blk_below (g := gb464) (o := .cells #[.int .i64 t452, .int .i64 t453, .int .i64 t454, .int .i64 t455, .int .i64 t456, .int .i64 t457] 44 (0, 0)) (by (with_reducible repeat (first | refine blk_drewN ?_ _ | refine blk_drew ?_ | refine blk_alloc ?_ _)); exact BK464.out) hb); have n1_ := Aside0.mk (blk_below (g := gb465) (o := .cells #[.int .i64 t458, .int .i64 t459, .int .i64 t460, .int .i64 t461, .int .i64 t462, .int .i64 t463] 44 (0, 0)) (by (with_reducible repeat (first | refine blk_drewN ?_ _ | refine blk_drew ?_ | refine blk_alloc ?_ _)); exact BK465.out) hb); have n2_ := Aside0.mk (blk_below (g := gb473) (o := .cells #[.int .i64 t466, .int .i64 t467, .int .i64 t468, .int .i64 t469, .int .i64 t470, .int .i64 t471] 44 (0, 0)) (by (with_reducible repeat (first | refine blk_drewN ?_ _ | refine blk_drew ?_ | refine blk_alloc ?_ _)); exact BK473.out) hb); have n3_ := Aside0.mk (blk_below (g := gb481) (o := .cells #[.int .i64 t474, .int .i64 t475, .int .i64 t476, .int .i64 t477, .int .i64 t478, .int .i64 t479] 44 (0, 0)) (by (with_reducible repeat (first | refine blk_drewN ?_ _ | refine blk_drew ?_ | refine blk_alloc ?_ _)); exact BK481.out) hb); have n4_ := Aside0.mk (below_step (by repeat (first | (with_reducible first | exact HB.out | apply below_alloc | apply pw_below_drewN | apply below_drew1 | refine below_set ?_ GE464.out | refine below_set ?_ GE465.out | refine below_set ?_ GE473.out | refine below_set ?_ GE481.out) | exact HB.out)) hb); have n5_ := Aside0.mk (hbox); have n6_ := Aside0.mk ((by rw [hg]; exact (below_size (by repeat (first | (with_reducible first | exact HB.out | apply below_alloc | apply pw_below_drewN | apply below_drew1 | refine below_set ?_ GE464.out | refine below_set ?_ GE465.out | refine below_set ?_ GE473.out | refine below_set ?_ GE481.out) | exact HB.out))) : w.heap.size ≤ gb490)); have n7_ := Aside0.mk ((by rw [hg]; exact (below_size (by repeat (first | (with_reducible first | exact HB.out | apply below_alloc | apply pw_below_drewN | apply below_drew1 | refine below_set ?_ GE464.out | refine below_set ?_ GE465.out | refine below_set ?_ GE473.out | refine below_set ?_ GE481.out) | exact HB.out))) : w.heap.size ≤ gb490)); have n8_ := Aside0.mk ((by rw [hg]; exact Nat.ne_of_lt (blk_lt (g := gb464) (o := .cells #[.int .i64 t452, .int .i64 t453, .int .i64 t454, .int .i64 t455, .int .i64 t456, .int .i64 t457] 44 (0, 0)) (by (with_reducible repeat (first | refine blk_drewN ?_ _ | refine blk_drew ?_ | refine blk_alloc ?_ _)); exact BK464.out)) : gb464 ≠ gb490)); have n9_ := Aside0.mk ((by rw [hg]; exact Nat.ne_of_gt (blk_lt (g := gb464) (o := .cells #[.int .i64 t452, .int .i64 t453, .int .i64 t454, .int .i64 t455, .int .i64 t456, .int .i64 t457] 44 (0, 0)) (by (with_reducible repeat (first | refine blk_drewN ?_ _ | refine blk_drew ?_ | refine blk_alloc ?_ _)); exact BK464.out)) : gb490 ≠ gb464)); have n10_ := Aside0.mk ((by rw [hg]; exact Nat.ne_of_lt (blk_lt (g := gb465) (o := .cells #[.int .i64 t458, .int .i64 t459, .int .i64 t460, .int .i64 t461, .int .i64 t462, .int .i64 t463] 44 (0, 0)) (by (with_reducible repeat (first | refine blk_drewN ?_ _ | refine blk_drew ?_ | refine blk_alloc ?_ _)); exact BK465.out)) : gb465 ≠ gb490)); have n11_ := Aside0.mk ((by rw [hg]; exact Nat.ne_of_gt (blk_lt (g := gb465) (o := .cells #[.int .i64 t458, .int .i64 t459, .int .i64 t460, .int .i64 t461, .int .i64 t462, .int .i64 t463] 44 (0, 0)) (by (with_reducible repeat (first | refine blk_drewN ?_ _ | refine blk_drew ?_ | refine blk_alloc ?_ _)); exact BK465.out)) : gb490 ≠ gb465)); have n12_ := Aside0.mk ((by rw [hg]; exact Nat.ne_of_lt (blk_lt (g := gb473) (o := .cells #[.int .i64 t466, .int .i64 t467, .int .i64 t468, .int .i64 t469, .int .i64 t470, .int .i64 t471] 44 (0, 0)) (by (with_reducible repeat (first | refine blk_drewN ?_ _ | refine blk_drew ?_ | refine blk_alloc ?_ _)); exact BK473.out)) : gb473 ≠ gb490)); have n13_ := Aside0.mk ((by rw [hg]; exact Nat.ne_of_gt (blk_lt (g := gb473) (o := .cells #[.int .i64 t466, .int .i64 t467, .int .i64 t468, .int .i64 t469, .int .i64 t470, .int .i64 t471] 44 (0, 0)) (by (with_reducible repeat (first | refine blk_drewN ?_ _ | refine blk_drew ?_ | refine blk_alloc ?_ _)); exact BK473.out)) : gb490 ≠ gb473)); have n14_ := Aside0.mk ((by rw [hg]; exact Nat.ne_of_lt (blk_lt (g := gb481) (o := .cells #[.int .i64 t474, .int .i64 t475, .int .i64 t476, .int .i64 t477, .int .i64 t478, .int .i64 t479] 44 (0, 0)) (by (with_reducible repeat (first | refine blk_drewN ?_ _ | refine blk_drew ?_ | refine blk_alloc ?_ _)); exact BK481.out)) : gb481 ≠ gb490)); have n15_ := Aside0.mk ((by rw [hg]; exact Nat.ne_of_gt (blk_lt (g := gb481) (o := .cells #[.int .i64 t474, .int .i64 t475, .int .i64 t476, .int .i64 t477, .int .i64 t478, .int .i64 t479] 44 (0, 0)) (by (with_reducible repeat (first | refine blk_drewN ?_ _ | refine blk_drew ?_ | refine blk_alloc ?_ _)); exact BK481.out)) : gb490 ≠ gb481)); clear BK464; clear BK465; clear BK473; clear BK481; clear HB; have BK464 := n0_; have BK465 := n1_; have BK473 := n2_; have BK481 := n3_; have HB := n4_; have BK490 := n5_; have GW490 := n6_; have GE490 := n7_; have NB464_490 := n8_; have NB490_464 := n9_; have NB465_490 := n10_; have NB490_465 := n11_; have NB473_490 := n12_; have NB490_473 := n13_; have NB481_490 := n14_; have NB490_481 := n15_; clear n0_ n1_ n2_ n3_ n4_ n5_ n6_ n7_ n8_ n9_ n10_ n11_ n12_ n13_ n14_ n15_; clear hb hbox hg) | ((with_reducible refine gate_dst (N := 10) rfl ?_); refine box_event ?hg (N := 10) ?hd (cs := #[.int .i64 0, .int .i64 0]) (t := 33) ?hr ?_; (case hd => rfl); (case hg => rfl); (case hr => first | (go_simp; done) | (go_simp; rfl)); intro gb491 hg w32 hbox hb; have n0_ := Aside0.mk (blk_below (g := gb464) (o := .cells #[.int .i64 t452, .int .i64 t453, .int .i64 t454, .int .i64 t455, .int .i64 t456, .int .i64 t457] 44 (0, 0)) (by (with_reducible repeat (first | refine blk_drewN ?_ _ | refine blk_drew ?_ | refine blk_alloc ?_ _)); exact BK464.out) hb); have n1_ := Aside0.mk (blk_below (g := gb465) (o := .cells #[.int .i64 t458, .int .i64 t459, .int .i64 t460, .int .i64 t461, .int .i64 t462, .int .i64 t463] 44 (0, 0)) (by (with_reducible repeat (first | refine blk_drewN ?_ _ | refine blk_drew ?_ | refine blk_alloc ?_ _)); exact BK465.out) hb); have n2_ := Aside0.mk (blk_below (g := gb473) (o := .cells #[.int .i64 t466, .int .i64 t467, .int .i64 t468, .int .i64 t469, .int .i64 t470, .int .i64 t471] 44 (0, 0)) (by (with_reducible repeat (first | refine blk_drewN ?_ _ | refine blk_drew ?_ | refine blk_alloc ?_ _)); exact BK473.out) hb); have n3_ := Aside0.mk (blk_below (g := gb481) (o := .cells #[.int .i64 t474, .int .i64 t475, .int .i64 t476, .int .i64 t477, .int .i64 t478, .int .i64 t479] 44 (0, 0)) (by (with_reducible repeat (first | refine blk_drewN ?_ _ | refine blk_drew ?_ | refine blk_alloc ?_ _)); exact BK481.out) hb); have n4_ := Aside0.mk (blk_below (g := gb490) (o := .cells #[.int .i64 0, .int .i64 0, .int .i64 0, .int .i64 0, .int .i64 0, .int .i64 0] 44 (0, 0)) (by (with_reducible repeat (first | refine blk_drewN ?_ _ | refine blk_drew ?_ | refine blk_alloc ?_ _)); exact BK490.out) hb); have n5_ := Aside0.mk (below_step (by repeat (first | (with_reducible first | exact HB.out | apply below_alloc | apply pw_below_drewN | apply below_drew1 | refine below_set ?_ GE464.out | refine below_set ?_ GE465.out | refine below_set ?_ GE473.out | refine below_set ?_ GE481.out | refine below_set ?_ GE490.out) | exact HB.out)) hb); have n6_ := Aside0.mk (hbox); have n7_ := Aside0.mk ((by rw [hg]; exact (below_size (by repeat (first | (with_reducible first | exact HB.out | apply below_alloc | apply pw_below_drewN | apply below_drew1 | refine below_set ?_ GE464.out | refine below_set ?_ GE465.out | refine below_set ?_ GE473.out | refine below_set ?_ GE481.out | refine below_set ?_ GE490.out) | exact HB.out))) : w.heap.size ≤ gb491)); have n8_ := Aside0.mk ((by rw [hg]; exact (below_size (by repeat (first | (with_reducible first | exact HB.out | apply below_alloc | apply pw_below_drewN | apply below_drew1 | refine below_set ?_ GE464.out | refine below_set ?_ GE465.out | refine below_set ?_ GE473.out | refine below_set ?_ GE481.out | refine below_set ?_ GE490.out) | exact HB.out))) : w.heap.size ≤ gb491)); have n9_ := Aside0.mk ((by rw [hg]; exact Nat.ne_of_lt (blk_lt (g := gb464) (o := .cells #[.int .i64 t452, .int .i64 t453, .int .i64 t454, .int .i64 t455, .int .i64 t456, .int .i64 t457] 44 (0, 0)) (by (with_reducible repeat (first | refine blk_drewN ?_ _ | refine blk_drew ?_ | refine blk_alloc ?_ _)); exact BK464.out)) : gb464 ≠ gb491)); have n10_ := Aside0.mk ((by rw [hg]; exact Nat.ne_of_gt (blk_lt (g := gb464) (o := .cells #[.int .i64 t452, .int .i64 t453, .int .i64 t454, .int .i64 t455, .int .i64 t456, .int .i64 t457] 44 (0, 0)) (by (with_reducible repeat (first | refine blk_drewN ?_ _ | refine blk_drew ?_ | refine blk_alloc ?_ _)); exact BK464.out)) : gb491 ≠ gb464)); have n11_ := Aside0.mk ((by rw [hg]; exact Nat.ne_of_lt (blk_lt (g := gb465) (o := .cells #[.int .i64 t458, .int .i64 t459, .int .i64 t460, .int .i64 t461, .int .i64 t462, .int .i64 t463] 44 (0, 0)) (by (with_reducible repeat (first | refine blk_drewN ?_ _ | refine blk_drew ?_ | refine blk_alloc ?_ _)); exact BK465.out)) : gb465 ≠ gb491)); have n12_ := Aside0.mk ((by rw [hg]; exact Nat.ne_of_gt (blk_lt (g := gb465) (o := .cells #[.int .i64 t458, .int .i64 t459, .int .i64 t460, .int .i64 t461, .int .i64 t462, .int .i64 t463] 44 (0, 0)) (by (with_reducible repeat (first | refine blk_drewN ?_ _ | refine blk_drew ?_ | refine blk_alloc ?_ _)); exact BK465.out)) : gb491 ≠ gb465)); have n13_ := Aside0.mk ((by rw [hg]; exact Nat.ne_of_lt (blk_lt (g := gb473) (o := .cells #[.int .i64 t466, .int .i64 t467, .int .i64 t468, .int .i64 t469, .int .i64 t470, .int .i64 t471] 44 (0, 0)) (by (with_reducible repeat (first | refine blk_drewN ?_ _ | refine blk_drew ?_ | refine blk_alloc ?_ _)); exact BK473.out)) : gb473 ≠ gb491)); have n14_ := Aside0.mk ((by rw [hg]; exact Nat.ne_of_gt (blk_lt (g := gb473) (o := .cells #[.int .i64 t466, .int .i64 t467, .int .i64 t468, .int .i64 t469, .int .i64 t470, .int .i64 t471] 44 (0, 0)) (by (with_reducible repeat (first | refine blk_drewN ?_ _ | refine blk_drew ?_ | refine blk_alloc ?_ _)); exact BK473.out)) : gb491 ≠ gb473)); have n15_ := Aside0.mk ((by rw [hg]; exact Nat.ne_of_lt (blk_lt (g := gb481) (o := .cells #[.int .i64 t474, .int .i64 t475, .int .i64 t476, .int .i64 t477, .int .i64 t478, .int .i64 t479] 44 (0, 0)) (by (with_reducible repeat (first | refine blk_drewN ?_ _ | refine blk_drew ?_ | refine blk_alloc ?_ _)); exact BK481.out)) : gb481 ≠ gb491)); have n16_ := Aside0.mk ((by rw [hg]; exact Nat.ne_of_gt (blk_lt (g := gb481) (o := .cells #[.int .i64 t474, .int .i64 t475, .int .i64 t476, .int .i64 t477, .int .i64 t478, .int .i64 t479] 44 (0, 0)) (by (with_reducible repeat (first | refine blk_drewN ?_ _ | refine blk_drew ?_ | refine blk_alloc ?_ _)); exact BK481.out)) : gb491 ≠ gb481)); have n17_ := Aside0.mk ((by rw [hg]; exact Nat.ne_of_lt (blk_lt (g := gb490) (o := .cells #[.int .i64 0, .int .i64 0, .int .i64 0, .int .i64 0, .int .i64 0, .int .i64 0] 44 (0, 0)) (by (with_reducible repeat (first | refine blk_drewN ?_ _ | refine blk_drew ?_ | refine blk_alloc ?_ _)); exact BK490.out)) : gb490 ≠ gb491)); have n18_ := Aside0.mk ((by rw [hg]; exact Nat.ne_of_gt (blk_lt (g := gb490) (o := .cells #[.int .i64 0, .int .i64 0, .int .i64 0, .int .i64 0, .int .i64 0, .int .i64 0] 44 (0, 0)) (by (with_reducible repeat (first | refine blk_drewN ?_ _ | refine blk_drew ?_ | refine blk_alloc ?_ _)); exact BK490.out)) : gb491 ≠ gb490)); clear BK464; clear BK465; clear BK473; clear BK481; clear BK490; clear HB; have BK464 := n0_; have BK465 := n1_; have BK473 := n2_; have BK481 := n3_; have BK490 := n4_; have HB := n5_; have BK491 := n6_; have GW491 := n7_; have GE491 := n8_; have NB464_491 := n9_; have NB491_464 := n10_; have NB465_491 := n11_; have NB491_465 := n12_; have NB473_491 := n13_; have NB491_473 := n14_; have NB481_491 := n15_; have NB491_481 := n16_; have NB490_491 := n17_; have NB491_490 := n18_; clear n0_ n1_ n2_ n3_ n4_ n5_ n6_ n7_ n8_ n9_ n10_ n11_ n12_ n13_ n14_ n15_ n16_ n17_ n18_; clear hb hbox hg; have hnb33 := NB490_464.out; have hnc33 := NB464_490.out; have hnb34 := NB490_465.out; have hnc34 := NB465_490.out; have hnb35 := NB490_473.out; have hnc35 := NB473_490.out; have hnb36 := NB490_481.out; have hnc36 := NB481_490.out; have hnb37 := NB490_491.out; have hnc37 := NB491_490.out; have hcz38_0 : w32.cell? ⟨gb490, 0, none⟩ = some (.int .i64 0) := (blk_cell BK490.out 0).trans rfl; have hcz38_1 : w32.cell? ⟨gb490, 1, none⟩ = some (.int .i64 0) := (blk_cell BK490.out 1).trans rfl; have hcz38_2 : w32.cell? ⟨gb490, 2, none⟩ = some (.int .i64 0) := (blk_cell BK490.out 2).trans rfl; have hcz38_3 : w32.cell? ⟨gb490, 3, none⟩ = some (.int .i64 0) := (blk_cell BK490.out 3).trans rfl; have hcz38_4 : w32.cell? ⟨gb490, 4, none⟩ = some (.int .i64 0) := (blk_cell BK490.out 4).trans rfl; have hcz38_5 : w32.cell? ⟨gb490, 5, none⟩ = some (.int .i64 0) := (blk_cell BK490.out 5).trans rfl; have hfz38_0 := blk_frozen BK490.out 0; have hfz38_1 := blk_frozen BK490.out 1; have hfz38_2 := blk_frozen BK490.out 2; have hfz38_3 := blk_frozen BK490.out 3; have hfz38_4 := blk_frozen BK490.out 4; have hfz38_5 := blk_frozen BK490.out 5; have hnb39 := NB491_464.out; have hnc39 := NB464_491.out; have hnb40 := NB491_465.out; have hnc40 := NB465_491.out; have hnb41 := NB491_473.out; have hnc41 := NB473_491.out; have hnb42 := NB491_481.out; have hnc42 := NB481_491.out; have hcz43_0 : w32.cell? ⟨gb491, 0, none⟩ = some (.int .i64 0) := (blk_cell BK491.out 0).trans rfl; have hcz43_1 : w32.cell? ⟨gb491, 1, none⟩ = some (.int .i64 0) := (blk_cell BK491.out 1).trans rfl; have hfz43_0 := blk_frozen BK491.out 0; have hfz43_1 := blk_frozen BK491.out 1) | ((with_reducible refine gate_callee (f := 55) rfl ?_); refine goesL_ (some 46) rfl rfl Try.func55 (by kernel_rfl) rfl #[.agg #[.int .i64 t482, .int .i64 t483, .int .i64 t484, .int .i64 t485, .int .i64 t486, .int .i64 t487], .agg #[.int .i64 t488, .int .i64 t489]] rfl (by (try simp only [List.map_toArray, List.map_cons, List.map_nil]); first | done | rfl | (simp only [List.length_drop, List.length_take]; rfl)) ?_; (with_reducible refine (impl_ScaleVector.calls k t482 t483 t484 t485 t486 t487 t488 t489 t492 t493 t494 t495 t496 t497 t498 _ A8.out).mono ?_); rintro e w44 ⟨rfl, hb⟩; refine ⟨_, rfl, ?_⟩; have n0_ := Aside0.mk (blk_below (g := gb464) (o := .cells #[.int .i64 t452, .int .i64 t453, .int .i64 t454, .int .i64 t455, .int .i64 t456, .int .i64 t457] 44 (0, 0)) (by (with_reducible repeat (first | refine blk_drewN ?_ _ | refine blk_drew ?_ | refine blk_alloc ?_ _)); refine blk_far ?_ NB464_491.out _; (with_reducible repeat (first | refine blk_drewN ?_ _ | refine blk_drew ?_ | refine blk_alloc ?_ _)); refine blk_far ?_ NB464_491.out _; (with_reducible repeat (first | refine blk_drewN ?_ _ | refine blk_drew ?_ | refine blk_alloc ?_ _)); refine blk_far ?_ NB464_490.out _; (with_reducible repeat (first | refine blk_drewN ?_ _ | refine blk_drew ?_ | refine blk_alloc ?_ _)); refine blk_far ?_ NB464_490.out _; (with_reducible repeat (first | refine blk_drewN ?_ _ | refine blk_drew ?_ | refine blk_alloc ?_ _)); refine blk_far ?_ NB464_490.out _; (with_reducible repeat (first | refine blk_drewN ?_ _ | refine blk_drew ?_ | refine blk_alloc ?_ _)); refine blk_far ?_ NB464_490.out _; (with_reducible repeat (first | refine blk_drewN ?_ _ | refine blk_drew ?_ | refine blk_alloc ?_ _)); refine blk_far ?_ NB464_490.out _; (with_reducible repeat (first | refine blk_drewN ?_ _ | refine blk_drew ?_ | refine blk_alloc ?_ _)); refine blk_far ?_ NB464_490.out _; (with_reducible repeat (first | refine blk_drewN ?_ _ | refine blk_drew ?_ | refine blk_alloc ?_ _)); exact BK464.out) hb); have n1_ := Aside0.mk (blk_below (g := gb465) (o := .cells #[.int .i64 t458, .int .i64 t459, .int .i64 t460, .int .i64 t461, .int .i64 t462, .int .i64 t463] 44 (0, 0)) (by (with_reducible repeat (first | refine blk_drewN ?_ _ | refine blk_drew ?_ | refine blk_alloc ?_ _)); refine blk_far ?_ NB465_491.out _; (with_reducible repeat (first | refine blk_drewN ?_ _ | refine blk_drew ?_ | refine blk_alloc ?_ _)); refine blk_far ?_ NB465_491.out _; (with_reducible repeat (first | refine blk_drewN ?_ _ | refine blk_drew ?_ | refine blk_alloc ?_ _)); refine blk_far ?_ NB465_490.out _; (with_reducible repeat (first | refine blk_drewN ?_ _ | refine blk_drew ?_ | refine blk_alloc ?_ _)); refine blk_far ?_ NB465_490.out _; (with_reducible repeat (first | refine blk_drewN ?_ _ | refine blk_drew ?_ | refine blk_alloc ?_ _)); refine blk_far ?_ NB465_490.out _; (with_reducible repeat (first | refine blk_drewN ?_ _ | refine blk_drew ?_ | refine blk_alloc ?_ _)); refine blk_far ?_ NB465_490.out _; (with_reducible repeat (first | refine blk_drewN ?_ _ | refine blk_drew ?_ | refine blk_alloc ?_ _)); refine blk_far ?_ NB465_490.out _; (with_reducible repeat (first | refine blk_drewN ?_ _ | refine blk_drew ?_ | refine blk_alloc ?_ _)); refine blk_far ?_ NB465_490.out _; (with_reducible repeat (first | refine blk_drewN ?_ _ | refine blk_drew ?_ | refine blk_alloc ?_ _)); exact BK465.out) hb); have n2_ := Aside0.mk (blk_below (g := gb473) (o := .cells #[.int .i64 t466, .int .i64 t467, .int .i64 t468, .int .i64 t469, .int .i64 t470, .int .i64 t471] 44 (0, 0)) (by (with_reducible repeat (first | refine blk_drewN ?_ _ | refine blk_drew ?_ | refine blk_alloc ?_ _)); refine blk_far ?_ NB473_491.out _; (with_reducible repeat (first | refine blk_drewN ?_ _ | refine blk_drew ?_ | refine blk_alloc ?_ _)); refine blk_far ?_ NB473_491.out _; (with_reducible repeat (first | refine blk_drewN ?_ _ | refine blk_drew ?_ | refine blk_alloc ?_ _)); refine blk_far ?_ NB473_490.out _; (with_reducible repeat (first | refine blk_drewN ?_ _ | refine blk_drew ?_ | refine blk_alloc ?_ _)); refine blk_far ?_ NB473_490.out _; (with_reducible repeat (first | refine blk_drewN ?_ _ | refine blk_drew ?_ | refine blk_alloc ?_ _)); refine blk_far ?_ NB473_490.out _; (with_reducible repeat (first | refine blk_drewN ?_ _ | refine blk_drew ?_ | refine blk_alloc ?_ _)); refine blk_far ?_ NB473_490.out _; (with_reducible repeat (first | refine blk_drewN ?_ _ | refine blk_drew ?_ | refine blk_alloc ?_ _)); refine blk_far ?_ NB473_490.out _; (with_reducible repeat (first | refine blk_drewN ?_ _ | refine blk_drew ?_ | refine blk_alloc ?_ _)); refine blk_far ?_ NB473_490.out _; (with_reducible repeat (first | refine blk_drewN ?_ _ | refine blk_drew ?_ | refine blk_alloc ?_ _)); exact BK473.out) hb); have n3_ := Aside0.mk (blk_below (g := gb481) (o := .cells #[.int .i64 t474, .int .i64 t475, .int .i64 t476, .int .i64 t477, .int .i64 t478, .int .i64 t479] 44 (0, 0)) (by (with_reducible repeat (first | refine blk_drewN ?_ _ | refine blk_drew ?_ | refine blk_alloc ?_ _)); refine blk_far ?_ NB481_491.out _; (with_reducible repeat (first | refine blk_drewN ?_ _ | refine blk_drew ?_ | refine blk_alloc ?_ _)); refine blk_far ?_ NB481_491.out _; (with_reducible repeat (first | refine blk_drewN ?_ _ | refine blk_drew ?_ | refine blk_alloc ?_ _)); refine blk_far ?_ NB481_490.out _; (with_reducible repeat (first | refine blk_drewN ?_ _ | refine blk_drew ?_ | refine blk_alloc ?_ _)); refine blk_far ?_ NB481_490.out _; (with_reducible repeat (first | refine blk_drewN ?_ _ | refine blk_drew ?_ | refine blk_alloc ?_ _)); refine blk_far ?_ NB481_490.out _; (with_reducible repeat (first | refine blk_drewN ?_ _ | refine blk_drew ?_ | refine blk_alloc ?_ _)); refine blk_far ?_ NB481_490.out _; (with_reducible repeat (first | refine blk_drewN ?_ _ | refine blk_drew ?_ | refine blk_alloc ?_ _)); refine blk_far ?_ NB481_490.out _; (with_reducible repeat (first | refine blk_drewN ?_ _ | refine blk_drew ?_ | refine blk_alloc ?_ _)); refine blk_far ?_ NB481_490.out _; (with_reducible repeat (first | refine blk_drewN ?_ _ | refine blk_drew ?_ | refine blk_alloc ?_ _)); exact BK481.out) hb); have n4_ := Aside0.mk (blk_below (g := gb490) (o := .cells #[.int .i64 t482, .int .i64 t483, .int .i64 t484, .int .i64 t485, .int .i64 t486, .int .i64 t487] 44 (0, 0)) (by (with_reducible repeat (first | refine blk_drewN ?_ _ | refine blk_drew ?_ | refine blk_alloc ?_ _)); refine blk_far ?_ NB490_491.out _; (with_reducible repeat (first | refine blk_drewN ?_ _ | refine blk_drew ?_ | refine blk_alloc ?_ _)); refine blk_far ?_ NB490_491.out _; (with_reducible repeat (first | refine blk_drewN ?_ _ | refine blk_drew ?_ | refine blk_alloc ?_ _)); refine blk_put (cs := #[.int .i64 t482, .int .i64 t483, .int .i64 t484, .int .i64 t485, .int .i64 t486, .int .i64 0]) ?_ 5 _ rfl; (with_reducible repeat (first | refine blk_drewN ?_ _ | refine blk_drew ?_ | refine blk_alloc ?_ _)); refine blk_put (cs := #[.int .i64 t482, .int .i64 t483, .int .i64 t484, .int .i64 t485, .int .i64 0, .int .i64 0]) ?_ 4 _ rfl; (with_reducible repeat (first | refine blk_drewN ?_ _ | refine blk_drew ?_ | refine blk_alloc ?_ _)); refine blk_put (cs := #[.int .i64 t482, .int .i64 t483, .int .i64 t484, .int .i64 0, .int .i64 0, .int .i64 0]) ?_ 3 _ rfl; (with_reducible repeat (first | refine blk_drewN ?_ _ | refine blk_drew ?_ | refine blk_alloc ?_ _)); refine blk_put (cs := #[.int .i64 t482, .int .i64 t483, .int .i64 0, .int .i64 0, .int .i64 0, .int .i64 0]) ?_ 2 _ rfl; (with_reducible repeat (first | refine blk_drewN ?_ _ | refine blk_drew ?_ | refine blk_alloc ?_ _)); refine blk_put (cs := #[.int .i64 t482, .int .i64 0, .int .i64 0, .int .i64 0, .int .i64 0, .int .i64 0]) ?_ 1 _ rfl; (with_reducible repeat (first | refine blk_drewN ?_ _ | refine blk_drew ?_ | refine blk_alloc ?_ _)); refine blk_put (cs := #[.int .i64 0, .int .i64 0, .int .i64 0, .int .i64 0, .int .i64 0, .int .i64 0]) ?_ 0 _ rfl; (with_reducible repeat (first | refine blk_drewN ?_ _ | refine blk_drew ?_ | refine blk_alloc ?_ _)); exact BK490.out) hb); have n5_ := Aside0.mk (blk_below (g := gb491) (o := .cells #[.int .i64 t488, .int .i64 t489] 33 (0, 0)) (by (with_reducible repeat (first | refine blk_drewN ?_ _ | refine blk_drew ?_ | refine blk_alloc ?_ _)); refine blk_put (cs := #[.int .i64 t488, .int .i64 0]) ?_ 1 _ rfl; (with_reducible repeat (first | refine blk_drewN ?_ _ | refine blk_drew ?_ | refine blk_alloc ?_ _)); refine blk_put (cs := #[.int .i64 0, .int .i64 0]) ?_ 0 _ rfl; (with_reducible repeat (first | refine blk_drewN ?_ _ | refine blk_drew ?_ | refine blk_alloc ?_ _)); refine blk_far ?_ NB491_490.out _; (with_reducible repeat (first | refine blk_drewN ?_ _ | refine blk_drew ?_ | refine blk_alloc ?_ _)); refine blk_far ?_ NB491_490.out _; (with_reducible repeat (first | refine blk_drewN ?_ _ | refine blk_drew ?_ | refine blk_alloc ?_ _)); refine blk_far ?_ NB491_490.out _; (with_reducible repeat (first | refine blk_drewN ?_ _ | refine blk_drew ?_ | refine blk_alloc ?_ _)); refine blk_far ?_ NB491_490.out _; (with_reducible repeat (first | refine blk_drewN ?_ _ | refine blk_drew ?_ | refine blk_alloc ?_ _)); refine blk_far ?_ NB491_490.out _; (with_reducible repeat (first | refine blk_drewN ?_ _ | refine blk_drew ?_ | refine blk_alloc ?_ _)); refine blk_far ?_ NB491_490.out _; (with_reducible repeat (first | refine blk_drewN ?_ _ | refine blk_drew ?_ | refine blk_alloc ?_ _)); exact BK491.out) hb); have n6_ := Aside0.mk (below_step (by repeat (first | (with_reducible first | exact HB.out | apply below_alloc | apply pw_below_drewN | apply below_drew1 | refine below_set ?_ GE464.out | refine below_set ?_ GE465.out | refine below_set ?_ GE473.out | refine below_set ?_ GE481.out | refine below_set ?_ GE490.out | refine below_set ?_ GE491.out) | exact HB.out)) hb); clear BK464; clear BK465; clear BK473; clear BK481; clear BK490; clear BK491; clear HB; have BK464 := n0_; have BK465 := n1_; have BK473 := n2_; have BK481 := n3_; have BK490 := n4_; have BK491 := n5_; have HB := n6_; clear n0_ n1_ n2_ n3_ n4_ n5_ n6_; (try clear hb); (try clear hb2); (try clear hk); (try clear hi)) | ((with_reducible refine gate_dst (N := 11) rfl ?_); refine box_event ?hg (N := 11) ?hd (cs := #[.int .i64 0, .int .i64 0, .int .i64 0, .int .i64 0, .int .i64 0, .int .i64 0]) (t := 44) ?hr ?_; (case hd => rfl); (case hg => rfl); (case hr => first | (go_simp; done) | (go_simp; rfl)); intro gb499 hg w45 hbox hb; have n0_ := Aside0.mk (blk_below (g := gb464) (o := .cells #[.int .i64 t452, .int .i64 t453, .int .i64 t454, .int .i64 t455, .int .i64 t456, .int .i64 t457] 44 (0, 0)) (by (with_reducible repeat (first | refine blk_drewN ?_ _ | refine blk_drew ?_ | refine blk_alloc ?_ _)); exact BK464.out) hb); have n1_ := Aside0.mk (blk_below (g := gb465) (o := .cells #[.int .i64 t458, .int .i64 t459, .int .i64 t460, .int .i64 t461, .int .i64 t462, .int .i64 t463] 44 (0, 0)) (by (with_reducible repeat (first | refine blk_drewN ?_ _ | refine blk_drew ?_ | refine blk_alloc ?_ _)); exact BK465.out) hb); have n2_ := Aside0.mk (blk_below (g := gb473) (o := .cells #[.int .i64 t466, .int .i64 t467, .int .i64 t468, .int .i64 t469, .int .i64 t470, .int .i64 t471] 44 (0, 0)) (by (with_reducible repeat (first | refine blk_drewN ?_ _ | refine blk_drew ?_ | refine blk_alloc ?_ _)); exact BK473.out) hb); have n3_ := Aside0.mk (blk_below (g := gb481) (o := .cells #[.int .i64 t474, .int .i64 t475, .int .i64 t476, .int .i64 t477, .int .i64 t478, .int .i64 t479] 44 (0, 0)) (by (with_reducible repeat (first | refine blk_drewN ?_ _ | refine blk_drew ?_ | refine blk_alloc ?_ _)); exact BK481.out) hb); have n4_ := Aside0.mk (blk_below (g := gb490) (o := .cells #[.int .i64 t482, .int .i64 t483, .int .i64 t484, .int .i64 t485, .int .i64 t486, .int .i64 t487] 44 (0, 0)) (by (with_reducible repeat (first | refine blk_drewN ?_ _ | refine blk_drew ?_ | refine blk_alloc ?_ _)); exact BK490.out) hb); have n5_ := Aside0.mk (blk_below (g := gb491) (o := .cells #[.int .i64 t488, .int .i64 t489] 33 (0, 0)) (by (with_reducible repeat (first | refine blk_drewN ?_ _ | refine blk_drew ?_ | refine blk_alloc ?_ _)); exact BK491.out) hb); have n6_ := Aside0.mk (below_step (by repeat (first | (with_reducible first | exact HB.out | apply below_alloc | apply pw_below_drewN | apply below_drew1 | refine below_set ?_ GE464.out | refine below_set ?_ GE465.out | refine below_set ?_ GE473.out | refine below_set ?_ GE481.out | refine below_set ?_ GE490.out | refine below_set ?_ GE491.out) | exact HB.out)) hb); have n7_ := Aside0.mk (hbox); have n8_ := Aside0.mk ((by rw [hg]; exact (below_size (by repeat (first | (with_reducible first | exact HB.out | apply below_alloc | apply pw_below_drewN | apply below_drew1 | refine below_set ?_ GE464.out | refine below_set ?_ GE465.out | refine below_set ?_ GE473.out | refine below_set ?_ GE481.out | refine below_set ?_ GE490.out | refine below_set ?_ GE491.out) | exact HB.out))) : w.heap.size ≤ gb499)); have n9_ := Aside0.mk ((by rw [hg]; exact (below_size (by repeat (first | (with_reducible first | exact HB.out | apply below_alloc | apply pw_below_drewN | apply below_drew1 | refine below_set ?_ GE464.out | refine below_set ?_ GE465.out | refine below_set ?_ GE473.out | refine below_set ?_ GE481.out | refine below_set ?_ GE490.out | refine below_set ?_ GE491.out) | exact HB.out))) : w.heap.size ≤ gb499)); have n10_ := Aside0.mk ((by rw [hg]; exact Nat.ne_of_lt (blk_lt (g := gb464) (o := .cells #[.int .i64 t452, .int .i64 t453, .int .i64 t454, .int .i64 t455, .int .i64 t456, .int .i64 t457] 44 (0, 0)) (by (with_reducible repeat (first | refine blk_drewN ?_ _ | refine blk_drew ?_ | refine blk_alloc ?_ _)); exact BK464.out)) : gb464 ≠ gb499)); have n11_ := Aside0.mk ((by rw [hg]; exact Nat.ne_of_gt (blk_lt (g := gb464) (o := .cells #[.int .i64 t452, .int .i64 t453, .int .i64 t454, .int .i64 t455, .int .i64 t456, .int .i64 t457] 44 (0, 0)) (by (with_reducible repeat (first | refine blk_drewN ?_ _ | refine blk_drew ?_ | refine blk_alloc ?_ _)); exact BK464.out)) : gb499 ≠ gb464)); have n12_ := Aside0.mk ((by rw [hg]; exact Nat.ne_of_lt (blk_lt (g := gb465) (o := .cells #[.int .i64 t458, .int .i64 t459, .int .i64 t460, .int .i64 t461, .int .i64 t462, .int .i64 t463] 44 (0, 0)) (by (with_reducible repeat (first | refine blk_drewN ?_ _ | refine blk_drew ?_ | refine blk_alloc ?_ _)); exact BK465.out)) : gb465 ≠ gb499)); have n13_ := Aside0.mk ((by rw [hg]; exact Nat.ne_of_gt (blk_lt (g := gb465) (o := .cells #[.int .i64 t458, .int .i64 t459, .int .i64 t460, .int .i64 t461, .int .i64 t462, .int .i64 t463] 44 (0, 0)) (by (with_reducible repeat (first | refine blk_drewN ?_ _ | refine blk_drew ?_ | refine blk_alloc ?_ _)); exact BK465.out)) : gb499 ≠ gb465)); have n14_ := Aside0.mk ((by rw [hg]; exact Nat.ne_of_lt (blk_lt (g := gb473) (o := .cells #[.int .i64 t466, .int .i64 t467, .int .i64 t468, .int .i64 t469, .int .i64 t470, .int .i64 t471] 44 (0, 0)) (by (with_reducible repeat (first | refine blk_drewN ?_ _ | refine blk_drew ?_ | refine blk_alloc ?_ _)); exact BK473.out)) : gb473 ≠ gb499)); have n15_ := Aside0.mk ((by rw [hg]; exact Nat.ne_of_gt (blk_lt (g := gb473) (o := .cells #[.int .i64 t466, .int .i64 t467, .int .i64 t468, .int .i64 t469, .int .i64 t470, .int .i64 t471] 44 (0, 0)) (by (with_reducible repeat (first | refine blk_drewN ?_ _ | refine blk_drew ?_ | refine blk_alloc ?_ _)); exact BK473.out)) : gb499 ≠ gb473)); have n16_ := Aside0.mk ((by rw [hg]; exact Nat.ne_of_lt (blk_lt (g := gb481) (o := .cells #[.int .i64 t474, .int .i64 t475, .int .i64 t476, .int .i64 t477, .int .i64 t478, .int .i64 t479] 44 (0, 0)) (by (with_reducible repeat (first | refine blk_drewN ?_ _ | refine blk_drew ?_ | refine blk_alloc ?_ _)); exact BK481.out)) : gb481 ≠ gb499)); have n17_ := Aside0.mk ((by rw [hg]; exact Nat.ne_of_gt (blk_lt (g := gb481) (o := .cells #[.int .i64 t474, .int .i64 t475, .int .i64 t476, .int .i64 t477, .int .i64 t478, .int .i64 t479] 44 (0, 0)) (by (with_reducible repeat (first | refine blk_drewN ?_ _ | refine blk_drew ?_ | refine blk_alloc ?_ _)); exact BK481.out)) : gb499 ≠ gb481)); have n18_ := Aside0.mk ((by rw [hg]; exact Nat.ne_of_lt (blk_lt (g := gb490) (o := .cells #[.int .i64 t482, .int .i64 t483, .int .i64 t484, .int .i64 t485, .int .i64 t486, .int .i64 t487] 44 (0, 0)) (by (with_reducible repeat (first | refine blk_drewN ?_ _ | refine blk_drew ?_ | refine blk_alloc ?_ _)); exact BK490.out)) : gb490 ≠ gb499)); have n19_ := Aside0.mk ((by rw [hg]; exact Nat.ne_of_gt (blk_lt (g := gb490) (o := .cells #[.int .i64 t482, .int .i64 t483, .int .i64 t484, .int .i64 t485, .int .i64 t486, .int .i64 t487] 44 (0, 0)) (by (with_reducible repeat (first | refine blk_drewN ?_ _ | refine blk_drew ?_ | refine blk_alloc ?_ _)); exact BK490.out)) : gb499 ≠ gb490)); have n20_ := Aside0.mk ((by rw [hg]; exact Nat.ne_of_lt (blk_lt (g := gb491) (o := .cells #[.int .i64 t488, .int .i64 t489] 33 (0, 0)) (by (with_reducible repeat (first | refine blk_drewN ?_ _ | refine blk_drew ?_ | refine blk_alloc ?_ _)); exact BK491.out)) : gb491 ≠ gb499)); have n21_ := Aside0.mk ((by rw [hg]; exact Nat.ne_of_gt (blk_lt (g := gb491) (o := .cells #[.int .i64 t488, .int .i64 t489] 33 (0, 0)) (by (with_reducible repeat (first | refine blk_drewN ?_ _ | refine blk_drew ?_ | refine blk_alloc ?_ _)); exact BK491.out)) : gb499 ≠ gb491)); clear BK464; clear BK465; clear BK473; clear BK481; clear BK490; clear BK491; clear HB; have BK464 := n0_; have BK465 := n1_; have BK473 := n2_; have BK481 := n3_; have BK490 := n4_; have BK491 := n5_; have HB := n6_; have BK499 := n7_; have GW499 := n8_; have GE499 := n9_; have NB464_499 := n10_; have NB499_464 := n11_; have NB465_499 := n12_; have NB499_465 := n13_; have NB473_499 := n14_; have NB499_473 := n15_; have NB481_499 := n16_; have NB499_481 := n17_; have NB490_499 := n18_; have NB499_490 := n19_; have NB491_499 := n20_; have NB499_491 := n21_; clear n0_ n1_ n2_ n3_ n4_ n5_ n6_ n7_ n8_ n9_ n10_ n11_ n12_ n13_ n14_ n15_ n16_ n17_ n18_ n19_ n20_ n21_; clear hb hbox hg; have hnb46 := NB499_464.out; have hnc46 := NB464_499.out; have hnb47 := NB499_465.out; have hnc47 := NB465_499.out; have hnb48 := NB499_473.out; have hnc48 := NB473_499.out; have hnb49 := NB499_481.out; have hnc49 := NB481_499.out; have hnb50 := NB499_490.out; have hnc50 := NB490_499.out; have hnb51 := NB499_491.out; have hnc51 := NB491_499.out; have hcz52_0 : w45.cell? ⟨gb499, 0, none⟩ = some (.int .i64 0) := (blk_cell BK499.out 0).trans rfl; have hcz52_1 : w45.cell? ⟨gb499, 1, none⟩ = some (.int .i64 0) := (blk_cell BK499.out 1).trans rfl; have hcz52_2 : w45.cell? ⟨gb499, 2, none⟩ = some (.int .i64 0) := (blk_cell BK499.out 2).trans rfl; have hcz52_3 : w45.cell? ⟨gb499, 3, none⟩ = some (.int .i64 0) := (blk_cell BK499.out 3).trans rfl; have hcz52_4 : w45.cell? ⟨gb499, 4, none⟩ = some (.int .i64 0) := (blk_cell BK499.out 4).trans rfl; have hcz52_5 : w45.cell? ⟨gb499, 5, none⟩ = some (.int .i64 0) := (blk_cell BK499.out 5).trans rfl; have hfz52_0 := blk_frozen BK499.out 0; have hfz52_1 := blk_frozen BK499.out 1; have hfz52_2 := blk_frozen BK499.out 2; have hfz52_3 := blk_frozen BK499.out 3; have hfz52_4 := blk_frozen BK499.out 4; have hfz52_5 := blk_frozen BK499.out 5; have hcz53_0 : w45.cell? ⟨gb490, 0, none⟩ = some (.int .i64 t482) := (blk_cell BK490.out 0).trans rfl; have hcz53_1 : w45.cell? ⟨gb490, 1, none⟩ = some (.int .i64 t483) := (blk_cell BK490.out 1).trans rfl; have hcz53_2 : w45.cell? ⟨gb490, 2, none⟩ = some (.int .i64 t484) := (blk_cell BK490.out 2).trans rfl; have hcz53_3 : w45.cell? ⟨gb490, 3, none⟩ = some (.int .i64 t485) := (blk_cell BK490.out 3).trans rfl; have hcz53_4 : w45.cell? ⟨gb490, 4, none⟩ = some (.int .i64 t486) := (blk_cell BK490.out 4).trans rfl; have hcz53_5 : w45.cell? ⟨gb490, 5, none⟩ = some (.int .i64 t487) := (blk_cell BK490.out 5).trans rfl; have hfz53_0 := blk_frozen BK490.out 0; have hfz53_1 := blk_frozen BK490.out 1; have hfz53_2 := blk_frozen BK490.out 2; have hfz53_3 := blk_frozen BK490.out 3; have hfz53_4 := blk_frozen BK490.out 4; have hfz53_5 := blk_frozen BK490.out 5; have hcz54_0 : w45.cell? ⟨gb491, 0, none⟩ = some (.int .i64 t488) := (blk_cell BK491.out 0).trans rfl; have hcz54_1 : w45.cell? ⟨gb491, 1, none⟩ = some (.int .i64 t489) := (blk_cell BK491.out 1).trans rfl; have hfz54_0 := blk_frozen BK491.out 0; have hfz54_1 := blk_frozen BK491.out 1) | ((with_reducible refine gate_callee (f := 56) rfl ?_); refine goesL_ (some 52) rfl rfl Try.func56 (by kernel_rfl) rfl #[.agg #[.int .i64 t482, .int .i64 t483, .int .i64 t484, .int .i64 t485, .int .i64 t486, .int .i64 t487], .agg #[.int .i64 t488, .int .i64 t489]] rfl (by (try simp only [List.map_toArray, List.map_cons, List.map_nil]); first | done | rfl | (simp only [List.length_drop, List.length_take]; rfl)) ?_; (with_reducible refine (spec_ScaleVector.calls k t482 t483 t484 t485 t486 t487 t488 t489 t500 t501 t502 t503 t504 t505 t506 _ A9.out).mono ?_); rintro e w55 ⟨rfl, hb⟩; refine ⟨_, rfl, ?_⟩; have n0_ := Aside0.mk (blk_below (g := gb464) (o := .cells #[.int .i64 t452, .int .i64 t453, .int .i64 t454, .int .i64 t455, .int .i64 t456, .int .i64 t457] 44 (0, 0)) (by (with_reducible repeat (first | refine blk_drewN ?_ _ | refine blk_drew ?_ | refine blk_alloc ?_ _)); refine blk_far ?_ NB464_499.out _; (with_reducible repeat (first | refine blk_drewN ?_ _ | refine blk_drew ?_ | refine blk_alloc ?_ _)); refine blk_far ?_ NB464_499.out _; (with_reducible repeat (first | refine blk_drewN ?_ _ | refine blk_drew ?_ | refine blk_alloc ?_ _)); refine blk_far ?_ NB464_499.out _; (with_reducible repeat (first | refine blk_drewN ?_ _ | refine blk_drew ?_ | refine blk_alloc ?_ _)); refine blk_far ?_ NB464_499.out _; (with_reducible repeat (first | refine blk_drewN ?_ _ | refine blk_drew ?_ | refine blk_alloc ?_ _)); refine blk_far ?_ NB464_499.out _; (with_reducible repeat (first | refine blk_drewN ?_ _ | refine blk_drew ?_ | refine blk_alloc ?_ _)); refine blk_far ?_ NB464_499.out _; (with_reducible repeat (first | refine blk_drewN ?_ _ | refine blk_drew ?_ | refine blk_alloc ?_ _)); exact BK464.out) hb); have n1_ := Aside0.mk (blk_below (g := gb465) (o := .cells #[.int .i64 t458, .int .i64 t459, .int .i64 t460, .int .i64 t461, .int .i64 t462, .int .i64 t463] 44 (0, 0)) (by (with_reducible repeat (first | refine blk_drewN ?_ _ | refine blk_drew ?_ | refine blk_alloc ?_ _)); refine blk_far ?_ NB465_499.out _; (with_reducible repeat (first | refine blk_drewN ?_ _ | refine blk_drew ?_ | refine blk_alloc ?_ _)); refine blk_far ?_ NB465_499.out _; (with_reducible repeat (first | refine blk_drewN ?_ _ | refine blk_drew ?_ | refine blk_alloc ?_ _)); refine blk_far ?_ NB465_499.out _; (with_reducible repeat (first | refine blk_drewN ?_ _ | refine blk_drew ?_ | refine blk_alloc ?_ _)); refine blk_far ?_ NB465_499.out _; (with_reducible repeat (first | refine blk_drewN ?_ _ | refine blk_drew ?_ | refine blk_alloc ?_ _)); refine blk_far ?_ NB465_499.out _; (with_reducible repeat (first | refine blk_drewN ?_ _ | refine blk_drew ?_ | refine blk_alloc ?_ _)); refine blk_far ?_ NB465_499.out _; (with_reducible repeat (first | refine blk_drewN ?_ _ | refine blk_drew ?_ | refine blk_alloc ?_ _)); exact BK465.out) hb); have n2_ := Aside0.mk (blk_below (g := gb473) (o := .cells #[.int .i64 t466, .int .i64 t467, .int .i64 t468, .int .i64 t469, .int .i64 t470, .int .i64 t471] 44 (0, 0)) (by (with_reducible repeat (first | refine blk_drewN ?_ _ | refine blk_drew ?_ | refine blk_alloc ?_ _)); refine blk_far ?_ NB473_499.out _; (with_reducible repeat (first | refine blk_drewN ?_ _ | refine blk_drew ?_ | refine blk_alloc ?_ _)); refine blk_far ?_ NB473_499.out _; (with_reducible repeat (first | refine blk_drewN ?_ _ | refine blk_drew ?_ | refine blk_alloc ?_ _)); refine blk_far ?_ NB473_499.out _; (with_reducible repeat (first | refine blk_drewN ?_ _ | refine blk_drew ?_ | refine blk_alloc ?_ _)); refine blk_far ?_ NB473_499.out _; (with_reducible repeat (first | refine blk_drewN ?_ _ | refine blk_drew ?_ | refine blk_alloc ?_ _)); refine blk_far ?_ NB473_499.out _; (with_reducible repeat (first | refine blk_drewN ?_ _ | refine blk_drew ?_ | refine blk_alloc ?_ _)); refine blk_far ?_ NB473_499.out _; (with_reducible repeat (first | refine blk_drewN ?_ _ | refine blk_drew ?_ | refine blk_alloc ?_ _)); exact BK473.out) hb); have n3_ := Aside0.mk (blk_below (g := gb481) (o := .cells #[.int .i64 t474, .int .i64 t475, .int .i64 t476, .int .i64 t477, .int .i64 t478, .int .i64 t479] 44 (0, 0)) (by (with_reducible repeat (first | refine blk_drewN ?_ _ | refine blk_drew ?_ | refine blk_alloc ?_ _)); refine blk_far ?_ NB481_499.out _; (with_reducible repeat (first | refine blk_drewN ?_ _ | refine blk_drew ?_ | refine blk_alloc ?_ _)); refine blk_far ?_ NB481_499.out _; (with_reducible repeat (first | refine blk_drewN ?_ _ | refine blk_drew ?_ | refine blk_alloc ?_ _)); refine blk_far ?_ NB481_499.out _; (with_reducible repeat (first | refine blk_drewN ?_ _ | refine blk_drew ?_ | refine blk_alloc ?_ _)); refine blk_far ?_ NB481_499.out _; (with_reducible repeat (first | refine blk_drewN ?_ _ | refine blk_drew ?_ | refine blk_alloc ?_ _)); refine blk_far ?_ NB481_499.out _; (with_reducible repeat (first | refine blk_drewN ?_ _ | refine blk_drew ?_ | refine blk_alloc ?_ _)); refine blk_far ?_ NB481_499.out _; (with_reducible repeat (first | refine blk_drewN ?_ _ | refine blk_drew ?_ | refine blk_alloc ?_ _)); exact BK481.out) hb); have n4_ := Aside0.mk (blk_below (g := gb490) (o := .cells #[.int .i64 t482, .int .i64 t483, .int .i64 t484, .int .i64 t485, .int .i64 t486, .int .i64 t487] 44 (0, 0)) (by (with_reducible repeat (first | refine blk_drewN ?_ _ | refine blk_drew ?_ | refine blk_alloc ?_ _)); refine blk_far ?_ NB490_499.out _; (with_reducible repeat (first | refine blk_drewN ?_ _ | refine blk_drew ?_ | refine blk_alloc ?_ _)); refine blk_far ?_ NB490_499.out _; (with_reducible repeat (first | refine blk_drewN ?_ _ | refine blk_drew ?_ | refine blk_alloc ?_ _)); refine blk_far ?_ NB490_499.out _; (with_reducible repeat (first | refine blk_drewN ?_ _ | refine blk_drew ?_ | refine blk_alloc ?_ _)); refine blk_far ?_ NB490_499.out _; (with_reducible repeat (first | refine blk_drewN ?_ _ | refine blk_drew ?_ | refine blk_alloc ?_ _)); refine blk_far ?_ NB490_499.out _; (with_reducible repeat (first | refine blk_drewN ?_ _ | refine blk_drew ?_ | refine blk_alloc ?_ _)); refine blk_far ?_ NB490_499.out _; (with_reducible repeat (first | refine blk_drewN ?_ _ | refine blk_drew ?_ | refine blk_alloc ?_ _)); exact BK490.out) hb); have n5_ := Aside0.mk (blk_below (g := gb491) (o := .cells #[.int .i64 t488, .int .i64 t489] 33 (0, 0)) (by (with_reducible repeat (first | refine blk_drewN ?_ _ | refine blk_drew ?_ | refine blk_alloc ?_ _)); refine blk_far ?_ NB491_499.out _; (with_reducible repeat (first | refine blk_drewN ?_ _ | refine blk_drew ?_ | refine blk_alloc ?_ _)); refine blk_far ?_ NB491_499.out _; (with_reducible repeat (first | refine blk_drewN ?_ _ | refine blk_drew ?_ | refine blk_alloc ?_ _)); refine blk_far ?_ NB491_499.out _; (with_reducible repeat (first | refine blk_drewN ?_ _ | refine blk_drew ?_ | refine blk_alloc ?_ _)); refine blk_far ?_ NB491_499.out _; (with_reducible repeat (first | refine blk_drewN ?_ _ | refine blk_drew ?_ | refine blk_alloc ?_ _)); refine blk_far ?_ NB491_499.out _; (with_reducible repeat (first | refine blk_drewN ?_ _ | refine blk_drew ?_ | refine blk_alloc ?_ _)); refine blk_far ?_ NB491_499.out _; (with_reducible repeat (first | refine blk_drewN ?_ _ | refine blk_drew ?_ | refine blk_alloc ?_ _)); exact BK491.out) hb); have n6_ := Aside0.mk (blk_below (g := gb499) (o := .cells #[.int .i64 t492, .int .i64 t493, .int .i64 t494, .int .i64 t495, .int .i64 t496, .int .i64 t497] 44 (0, 0)) (by (with_reducible repeat (first | refine blk_drewN ?_ _ | refine blk_drew ?_ | refine blk_alloc ?_ _)); refine blk_put (cs := #[.int .i64 t492, .int .i64 t493, .int .i64 t494, .int .i64 t495, .int .i64 t496, .int .i64 0]) ?_ 5 _ rfl; (with_reducible repeat (first | refine blk_drewN ?_ _ | refine blk_drew ?_ | refine blk_alloc ?_ _)); refine blk_put (cs := #[.int .i64 t492, .int .i64 t493, .int .i64 t494, .int .i64 t495, .int .i64 0, .int .i64 0]) ?_ 4 _ rfl; (with_reducible repeat (first | refine blk_drewN ?_ _ | refine blk_drew ?_ | refine blk_alloc ?_ _)); refine blk_put (cs := #[.int .i64 t492, .int .i64 t493, .int .i64 t494, .int .i64 0, .int .i64 0, .int .i64 0]) ?_ 3 _ rfl; (with_reducible repeat (first | refine blk_drewN ?_ _ | refine blk_drew ?_ | refine blk_alloc ?_ _)); refine blk_put (cs := #[.int .i64 t492, .int .i64 t493, .int .i64 0, .int .i64 0, .int .i64 0, .int .i64 0]) ?_ 2 _ rfl; (with_reducible repeat (first | refine blk_drewN ?_ _ | refine blk_drew ?_ | refine blk_alloc ?_ _)); refine blk_put (cs := #[.int .i64 t492, .int .i64 0, .int .i64 0, .int .i64 0, .int .i64 0, .int .i64 0]) ?_ 1 _ rfl; (with_reducible repeat (first | refine blk_drewN ?_ _ | refine blk_drew ?_ | refine blk_alloc ?_ _)); refine blk_put (cs := #[.int .i64 0, .int .i64 0, .int .i64 0, .int .i64 0, .int .i64 0, .int .i64 0]) ?_ 0 _ rfl; (with_reducible repeat (first | refine blk_drewN ?_ _ | refine blk_drew ?_ | refine blk_alloc ?_ _)); exact BK499.out) hb); have n7_ := Aside0.mk (below_step (by repeat (first | (with_reducible first | exact HB.out | apply below_alloc | apply pw_below_drewN | apply below_drew1 | refine below_set ?_ GE464.out | refine below_set ?_ GE465.out | refine below_set ?_ GE473.out | refine below_set ?_ GE481.out | refine below_set ?_ GE490.out | refine below_set ?_ GE491.out | refine below_set ?_ GE499.out) | exact HB.out)) hb); clear BK464; clear BK465; clear BK473; clear BK481; clear BK490; clear BK491; clear BK499; clear HB; have BK464 := n0_; have BK465 := n1_; have BK473 := n2_; have BK481 := n3_; have BK490 := n4_; have BK491 := n5_; have BK499 := n6_; have HB := n7_; clear n0_ n1_ n2_ n3_ n4_ n5_ n6_ n7_; (try clear hb); (try clear hb2); (try clear hk); (try clear hi)) | ((with_reducible refine gate_dst (N := 13) rfl ?_); refine box_event ?hg (N := 13) ?hd (cs := #[.int .i64 0, .int .i64 0, .int .i64 0, .int .i64 0, .int .i64 0, .int .i64 0]) (t := 44) ?hr ?_; (case hd => rfl); (case hg => rfl); (case hr => first | (go_simp; done) | (go_simp; rfl)); intro gb507 hg w56 hbox hb; have n0_ := Aside0.mk (blk_below (g := gb464) (o := .cells #[.int .i64 t452, .int .i64 t453, .int .i64 t454, .int .i64 t455, .int .i64 t456, .int .i64 t457] 44 (0, 0)) (by (with_reducible repeat (first | refine blk_drewN ?_ _ | refine blk_drew ?_ | refine blk_alloc ?_ _)); exact BK464.out) hb); have n1_ := Aside0.mk (blk_below (g := gb465) (o := .cells #[.int .i64 t458, .int .i64 t459, .int .i64 t460, .int .i64 t461, .int .i64 t462, .int .i64 t463] 44 (0, 0)) (by (with_reducible repeat (first | refine blk_drewN ?_ _ | refine blk_drew ?_ | refine blk_alloc ?_ _)); exact BK465.out) hb); have n2_ := Aside0.mk (blk_below (g := gb473) (o := .cells #[.int .i64 t466, .int .i64 t467, .int .i64 t468, .int .i64 t469, .int .i64 t470, .int .i64 t471] 44 (0, 0)) (by (with_reducible repeat (first | refine blk_drewN ?_ _ | refine blk_drew ?_ | refine blk_alloc ?_ _)); exact BK473.out) hb); have n3_ := Aside0.mk (blk_below (g := gb481) (o := .cells #[.int .i64 t474, .int .i64 t475, .int .i64 t476, .int .i64 t477, .int .i64 t478, .int .i64 t479] 44 (0, 0)) (by (with_reducible repeat (first | refine blk_drewN ?_ _ | refine blk_drew ?_ | refine blk_alloc ?_ _)); exact BK481.out) hb); have n4_ := Aside0.mk (blk_below (g := gb490) (o := .cells #[.int .i64 t482, .int .i64 t483, .int .i64 t484, .int .i64 t485, .int .i64 t486, .int .i64 t487] 44 (0, 0)) (by (with_reducible repeat (first | refine blk_drewN ?_ _ | refine blk_drew ?_ | refine blk_alloc ?_ _)); exact BK490.out) hb); have n5_ := Aside0.mk (blk_below (g := gb491) (o := .cells #[.int .i64 t488, .int .i64 t489] 33 (0, 0)) (by (with_reducible repeat (first | refine blk_drewN ?_ _ | refine blk_drew ?_ | refine blk_alloc ?_ _)); exact BK491.out) hb); have n6_ := Aside0.mk (blk_below (g := gb499) (o := .cells #[.int .i64 t492, .int .i64 t493, .int .i64 t494, .int .i64 t495, .int .i64 t496, .int .i64 t497] 44 (0, 0)) (by (with_reducible repeat (first | refine blk_drewN ?_ _ | refine blk_drew ?_ | refine blk_alloc ?_ _)); exact BK499.out) hb); have n7_ := Aside0.mk (below_step (by repeat (first | (with_reducible first | exact HB.out | apply below_alloc | apply pw_below_drewN | apply below_drew1 | refine below_set ?_ GE464.out | refine below_set ?_ GE465.out | refine below_set ?_ GE473.out | refine below_set ?_ GE481.out | refine below_set ?_ GE490.out | refine below_set ?_ GE491.out | refine below_set ?_ GE499.out) | exact HB.out)) hb); have n8_ := Aside0.mk (hbox); have n9_ := Aside0.mk ((by rw [hg]; exact (below_size (by repeat (first | (with_reducible first | exact HB.out | apply below_alloc | apply pw_below_drewN | apply below_drew1 | refine below_set ?_ GE464.out | refine below_set ?_ GE465.out | refine below_set ?_ GE473.out | refine below_set ?_ GE481.out | refine below_set ?_ GE490.out | refine below_set ?_ GE491.out | refine below_set ?_ GE499.out) | exact HB.out))) : w.heap.size ≤ gb507)); have n10_ := Aside0.mk ((by rw [hg]; exact (below_size (by repeat (first | (with_reducible first | exact HB.out | apply below_alloc | apply pw_below_drewN | apply below_drew1 | refine below_set ?_ GE464.out | refine below_set ?_ GE465.out | refine below_set ?_ GE473.out | refine below_set ?_ GE481.out | refine below_set ?_ GE490.out | refine below_set ?_ GE491.out | refine below_set ?_ GE499.out) | exact HB.out))) : w.heap.size ≤ gb507)); have n11_ := Aside0.mk ((by rw [hg]; exact Nat.ne_of_lt (blk_lt (g := gb464) (o := .cells #[.int .i64 t452, .int .i64 t453, .int .i64 t454, .int .i64 t455, .int .i64 t456, .int .i64 t457] 44 (0, 0)) (by (with_reducible repeat (first | refine blk_drewN ?_ _ | refine blk_drew ?_ | refine blk_alloc ?_ _)); exact BK464.out)) : gb464 ≠ gb507)); have n12_ := Aside0.mk ((by rw [hg]; exact Nat.ne_of_gt (blk_lt (g := gb464) (o := .cells #[.int .i64 t452, .int .i64 t453, .int .i64 t454, .int .i64 t455, .int .i64 t456, .int .i64 t457] 44 (0, 0)) (by (with_reducible repeat (first | refine blk_drewN ?_ _ | refine blk_drew ?_ | refine blk_alloc ?_ _)); exact BK464.out)) : gb507 ≠ gb464)); have n13_ := Aside0.mk ((by rw [hg]; exact Nat.ne_of_lt (blk_lt (g := gb465) (o := .cells #[.int .i64 t458, .int .i64 t459, .int .i64 t460, .int .i64 t461, .int .i64 t462, .int .i64 t463] 44 (0, 0)) (by (with_reducible repeat (first | refine blk_drewN ?_ _ | refine blk_drew ?_ | refine blk_alloc ?_ _)); exact BK465.out)) : gb465 ≠ gb507)); have n14_ := Aside0.mk ((by rw [hg]; exact Nat.ne_of_gt (blk_lt (g := gb465) (o := .cells #[.int .i64 t458, .int .i64 t459, .int .i64 t460, .int .i64 t461, .int .i64 t462, .int .i64 t463] 44 (0, 0)) (by (with_reducible repeat (first | refine blk_drewN ?_ _ | refine blk_drew ?_ | refine blk_alloc ?_ _)); exact BK465.out)) : gb507 ≠ gb465)); have n15_ := Aside0.mk ((by rw [hg]; exact Nat.ne_of_lt (blk_lt (g := gb473) (o := .cells #[.int .i64 t466, .int .i64 t467, .int .i64 t468, .int .i64 t469, .int .i64 t470, .int .i64 t471] 44 (0, 0)) (by (with_reducible repeat (first | refine blk_drewN ?_ _ | refine blk_drew ?_ | refine blk_alloc ?_ _)); exact BK473.out)) : gb473 ≠ gb507)); have n16_ := Aside0.mk ((by rw [hg]; exact Nat.ne_of_gt (blk_lt (g := gb473) (o := .cells #[.int .i64 t466, .int .i64 t467, .int .i64 t468, .int .i64 t469, .int .i64 t470, .int .i64 t471] 44 (0, 0)) (by (with_reducible repeat (first | refine blk_drewN ?_ _ | refine blk_drew ?_ | refine blk_alloc ?_ _)); exact BK473.out)) : gb507 ≠ gb473)); have n17_ := Aside0.mk ((by rw [hg]; exact Nat.ne_of_lt (blk_lt (g := gb481) (o := .cells #[.int .i64 t474, .int .i64 t475, .int .i64 t476, .int .i64 t477, .int .i64 t478, .int .i64 t479] 44 (0, 0)) (by (with_reducible repeat (first | refine blk_drewN ?_ _ | refine blk_drew ?_ | refine blk_alloc ?_ _)); exact BK481.out)) : gb481 ≠ gb507)); have n18_ := Aside0.mk ((by rw [hg]; exact Nat.ne_of_gt (blk_lt (g := gb481) (o := .cells #[.int .i64 t474, .int .i64 t475, .int .i64 t476, .int .i64 t477, .int .i64 t478, .int .i64 t479] 44 (0, 0)) (by (with_reducible repeat (first | refine blk_drewN ?_ _ | refine blk_drew ?_ | refine blk_alloc ?_ _)); exact BK481.out)) : gb507 ≠ gb481)); have n19_ := Aside0.mk ((by rw [hg]; exact Nat.ne_of_lt (blk_lt (g := gb490) (o := .cells #[.int .i64 t482, .int .i64 t483, .int .i64 t484, .int .i64 t485, .int .i64 t486, .int .i64 t487] 44 (0, 0)) (by (with_reducible repeat (first | refine blk_drewN ?_ _ | refine blk_drew ?_ | refine blk_alloc ?_ _)); exact BK490.out)) : gb490 ≠ gb507)); have n20_ := Aside0.mk ((by rw [hg]; exact Nat.ne_of_gt (blk_lt (g := gb490) (o := .cells #[.int .i64 t482, .int .i64 t483, .int .i64 t484, .int .i64 t485, .int .i64 t486, .int .i64 t487] 44 (0, 0)) (by (with_reducible repeat (first | refine blk_drewN ?_ _ | refine blk_drew ?_ | refine blk_alloc ?_ _)); exact BK490.out)) : gb507 ≠ gb490)); have n21_ := Aside0.mk ((by rw [hg]; exact Nat.ne_of_lt (blk_lt (g := gb491) (o := .cells #[.int .i64 t488, .int .i64 t489] 33 (0, 0)) (by (with_reducible repeat (first | refine blk_drewN ?_ _ | refine blk_drew ?_ | refine blk_alloc ?_ _)); exact BK491.out)) : gb491 ≠ gb507)); have n22_ := Aside0.mk ((by rw [hg]; exact Nat.ne_of_gt (blk_lt (g := gb491) (o := .cells #[.int .i64 t488, .int .i64 t489] 33 (0, 0)) (by (with_reducible repeat (first | refine blk_drewN ?_ _ | refine blk_drew ?_ | refine blk_alloc ?_ _)); exact BK491.out)) : gb507 ≠ gb491)); have n23_ := Aside0.mk ((by rw [hg]; exact Nat.ne_of_lt (blk_lt (g := gb499) (o := .cells #[.int .i64 t492, .int .i64 t493, .int .i64 t494, .int .i64 t495, .int .i64 t496, .int .i64 t497] 44 (0, 0)) (by (with_reducible repeat (first | refine blk_drewN ?_ _ | refine blk_drew ?_ | refine blk_alloc ?_ _)); exact BK499.out)) : gb499 ≠ gb507)); have n24_ := Aside0.mk ((by rw [hg]; exact Nat.ne_of_gt (blk_lt (g := gb499) (o := .cells #[.int .i64 t492, .int .i64 t493, .int .i64 t494, .int .i64 t495, .int .i64 t496, .int .i64 t497] 44 (0, 0)) (by (with_reducible repeat (first | refine blk_drewN ?_ _ | refine blk_drew ?_ | refine blk_alloc ?_ _)); exact BK499.out)) : gb507 ≠ gb499)); clear BK464; clear BK465; clear BK473; clear BK481; clear BK490; clear BK491; clear BK499; clear HB; have BK464 := n0_; have BK465 := n1_; have BK473 := n2_; have BK481 := n3_; have BK490 := n4_; have BK491 := n5_; have BK499 := n6_; have HB := n7_; have BK507 := n8_; have GW507 := n9_; have GE507 := n10_; have NB464_507 := n11_; have NB507_464 := n12_; have NB465_507 := n13_; have NB507_465 := n14_; have NB473_507 := n15_; have NB507_473 := n16_; have NB481_507 := n17_; have NB507_481 := n18_; have NB490_507 := n19_; have NB507_490 := n20_; have NB491_507 := n21_; have NB507_491 := n22_; have NB499_507 := n23_; have NB507_499 := n24_; clear n0_ n1_ n2_ n3_ n4_ n5_ n6_ n7_ n8_ n9_ n10_ n11_ n12_ n13_ n14_ n15_ n16_ n17_ n18_ n19_ n20_ n21_ n22_ n23_ n24_; clear hb hbox hg; have hnb57 := NB507_464.out; have hnc57 := NB464_507.out; have hnb58 := NB507_465.out; have hnc58 := NB465_507.out; have hnb59 := NB507_473.out; have hnc59 := NB473_507.out; have hnb60 := NB507_481.out; have hnc60 := NB481_507.out; have hnb61 := NB507_490.out; have hnc61 := NB490_507.out; have hnb62 := NB507_491.out; have hnc62 := NB491_507.out; have hnb63 := NB507_499.out; have hnc63 := NB499_507.out; have hcz64_0 : w56.cell? ⟨gb507, 0, none⟩ = some (.int .i64 0) := (blk_cell BK507.out 0).trans rfl; have hcz64_1 : w56.cell? ⟨gb507, 1, none⟩ = some (.int .i64 0) := (blk_cell BK507.out 1).trans rfl; have hcz64_2 : w56.cell? ⟨gb507, 2, none⟩ = some (.int .i64 0) := (blk_cell BK507.out 2).trans rfl; have hcz64_3 : w56.cell? ⟨gb507, 3, none⟩ = some (.int .i64 0) := (blk_cell BK507.out 3).trans rfl; have hcz64_4 : w56.cell? ⟨gb507, 4, none⟩ = some (.int .i64 0) := (blk_cell BK507.out 4).trans rfl; have hcz64_5 : w56.cell? ⟨gb507, 5, none⟩ = some (.int .i64 0) := (blk_cell BK507.out 5).trans rfl; have hfz64_0 := blk_frozen BK507.out 0; have hfz64_1 := blk_frozen BK507.out 1; have hfz64_2 := blk_frozen BK507.out 2; have hfz64_3 := blk_frozen BK507.out 3; have hfz64_4 := blk_frozen BK507.out 4; have hfz64_5 := blk_frozen BK507.out 5))
    (try simp only [Act.put, List.setIfInBounds_toArray, List.set_cons_zero, List.set_cons_succ])
    go_cut [72] (fun v72 wc => ∃ (kq : Nat) (x72_9 : Bool), v72 = .bool x72_9 ∧ Aside0 (laws_FnVectorSums.j0 kq t472 t498 x72_9 t452 t453 t454 t455 t456 t457 t458 t459 t460 t461 t462 t463 t466 t467 t468 t469 t470 t471 t482 t483 t484 t485 t486 t487 = some true) ∧ Aside0 (kq ≤ k) ∧ Aside0 (wc.heap[gb464]? = some (.cells #[.int .i64 t452, .int .i64 t453, .int .i64 t454, .int .i64 t455, .int .i64 t456, .int .i64 t457] 44 (0, 0))) ∧ Aside0 (wc.heap[gb465]? = some (.cells #[.int .i64 t458, .int .i64 t459, .int .i64 t460, .int .i64 t461, .int .i64 t462, .int .i64 t463] 44 (0, 0))) ∧ Aside0 (wc.heap[gb473]? = some (.cells #[.int .i64 t466, .int .i64 t467, .int .i64 t468, .int .i64 t469, .int .i64 t470, .int .i64 t471] 44 (0, 0))) ∧ Aside0 (wc.heap[gb481]? = some (.cells #[.int .i64 t474, .int .i64 t475, .int .i64 t476, .int .i64 t477, .int .i64 t478, .int .i64 t479] 44 (0, 0))) ∧ Aside0 (wc.heap[gb490]? = some (.cells #[.int .i64 t482, .int .i64 t483, .int .i64 t484, .int .i64 t485, .int .i64 t486, .int .i64 t487] 44 (0, 0))) ∧ Aside0 (wc.heap[gb491]? = some (.cells #[.int .i64 t488, .int .i64 t489] 33 (0, 0))) ∧ Aside0 (wc.heap[gb499]? = some (.cells #[.int .i64 t492, .int .i64 t493, .int .i64 t494, .int .i64 t495, .int .i64 t496, .int .i64 t497] 44 (0, 0))) ∧ Aside0 (wc.heap[gb507]? = some (.cells #[.int .i64 t500, .int .i64 t501, .int .i64 t502, .int .i64 t503, .int .i64 t504, .int .i64 t505] 44 (0, 0))) ∧ Aside0 (Below w.heap.size w wc))
    case first =>
      have H := HC10.out
      clear HC10
      by_cases c65 : t472 = t480
      · rw [if_pos c65] at H
        have c65b0 : (t472 == t480) = true := beq_iff_eq.mpr c65
        have c65b1 : (t472 != t480) = false := bne_eq_false_iff_eq.mpr c65
        clear c65
        (first | rw [c65b0] | (simp only [i64_w, i32_w]; rw [c65b0]) | skip)
        by_cases c66 : ((!(t466 == t474) || (!(t467 == t475))) || ((!(t468 == t476) || (!(t469 == t477))) || ((!(t470 == t478) || (!(t471 == t479)))))) = true
        · rw [if_pos c66] at H
          have c66b0 : ((!(t466 == t474) || (!(t467 == t475))) || ((!(t468 == t476) || (!(t469 == t477))) || ((!(t470 == t478) || (!(t471 == t479)))))) = true := c66
          clear c66
          have H' := Aside0.mk H
          clear H
          have hnb67 := NB473_464.out
          have hnc67 := NB464_473.out
          have hnb68 := NB473_465.out
          have hnc68 := NB465_473.out
          have hnb69 := NB473_481.out
          have hnc69 := NB481_473.out
          have hnb70 := NB473_490.out
          have hnc70 := NB490_473.out
          have hnb71 := NB473_491.out
          have hnc71 := NB491_473.out
          have hnb72 := NB473_499.out
          have hnc72 := NB499_473.out
          have hnb73 := NB473_507.out
          have hnc73 := NB507_473.out
          have hcz74_0 : w56.cell? ⟨gb473, 0, none⟩ = some (.int .i64 t466) := (blk_cell BK473.out 0).trans rfl
          have hcz74_1 : w56.cell? ⟨gb473, 1, none⟩ = some (.int .i64 t467) := (blk_cell BK473.out 1).trans rfl
          have hcz74_2 : w56.cell? ⟨gb473, 2, none⟩ = some (.int .i64 t468) := (blk_cell BK473.out 2).trans rfl
          have hcz74_3 : w56.cell? ⟨gb473, 3, none⟩ = some (.int .i64 t469) := (blk_cell BK473.out 3).trans rfl
          have hcz74_4 : w56.cell? ⟨gb473, 4, none⟩ = some (.int .i64 t470) := (blk_cell BK473.out 4).trans rfl
          have hcz74_5 : w56.cell? ⟨gb473, 5, none⟩ = some (.int .i64 t471) := (blk_cell BK473.out 5).trans rfl
          have hfz74_0 := blk_frozen BK473.out 0
          have hfz74_1 := blk_frozen BK473.out 1
          have hfz74_2 := blk_frozen BK473.out 2
          have hfz74_3 := blk_frozen BK473.out 3
          have hfz74_4 := blk_frozen BK473.out 4
          have hfz74_5 := blk_frozen BK473.out 5
          have hnb75 := NB481_464.out
          have hnc75 := NB464_481.out
          have hnb76 := NB481_465.out
          have hnc76 := NB465_481.out
          have hnb77 := NB481_490.out
          have hnc77 := NB490_481.out
          have hnb78 := NB481_491.out
          have hnc78 := NB491_481.out
          have hnb79 := NB481_499.out
          have hnc79 := NB499_481.out
          have hnb80 := NB481_507.out
          have hnc80 := NB507_481.out
          have hcz81_0 : w56.cell? ⟨gb481, 0, none⟩ = some (.int .i64 t474) := (blk_cell BK481.out 0).trans rfl
          have hcz81_1 : w56.cell? ⟨gb481, 1, none⟩ = some (.int .i64 t475) := (blk_cell BK481.out 1).trans rfl
          have hcz81_2 : w56.cell? ⟨gb481, 2, none⟩ = some (.int .i64 t476) := (blk_cell BK481.out 2).trans rfl
          have hcz81_3 : w56.cell? ⟨gb481, 3, none⟩ = some (.int .i64 t477) := (blk_cell BK481.out 3).trans rfl
          have hcz81_4 : w56.cell? ⟨gb481, 4, none⟩ = some (.int .i64 t478) := (blk_cell BK481.out 4).trans rfl
          have hcz81_5 : w56.cell? ⟨gb481, 5, none⟩ = some (.int .i64 t479) := (blk_cell BK481.out 5).trans rfl
          have hfz81_0 := blk_frozen BK481.out 0
          have hfz81_1 := blk_frozen BK481.out 1
          have hfz81_2 := blk_frozen BK481.out 2
          have hfz81_3 := blk_frozen BK481.out 3
          have hfz81_4 := blk_frozen BK481.out 4
          have hfz81_5 := blk_frozen BK481.out 5
          go_wp2
          go_meet
          case rel => exact ⟨_, (true), (by first | rfl | (simp; done) | (simp [*]; done)), H', ⟨by first | omega | exact Nat.le_refl _⟩, ⟨by (with_reducible repeat (first | refine blk_drewN ?_ _ | refine blk_drew ?_ | refine blk_alloc ?_ _)); refine blk_far ?_ NB464_507.out _; (with_reducible repeat (first | refine blk_drewN ?_ _ | refine blk_drew ?_ | refine blk_alloc ?_ _)); refine blk_far ?_ NB464_507.out _; (with_reducible repeat (first | refine blk_drewN ?_ _ | refine blk_drew ?_ | refine blk_alloc ?_ _)); refine blk_far ?_ NB464_507.out _; (with_reducible repeat (first | refine blk_drewN ?_ _ | refine blk_drew ?_ | refine blk_alloc ?_ _)); refine blk_far ?_ NB464_507.out _; (with_reducible repeat (first | refine blk_drewN ?_ _ | refine blk_drew ?_ | refine blk_alloc ?_ _)); refine blk_far ?_ NB464_507.out _; (with_reducible repeat (first | refine blk_drewN ?_ _ | refine blk_drew ?_ | refine blk_alloc ?_ _)); refine blk_far ?_ NB464_507.out _; (with_reducible repeat (first | refine blk_drewN ?_ _ | refine blk_drew ?_ | refine blk_alloc ?_ _)); exact BK464.out⟩, ⟨by (with_reducible repeat (first | refine blk_drewN ?_ _ | refine blk_drew ?_ | refine blk_alloc ?_ _)); refine blk_far ?_ NB465_507.out _; (with_reducible repeat (first | refine blk_drewN ?_ _ | refine blk_drew ?_ | refine blk_alloc ?_ _)); refine blk_far ?_ NB465_507.out _; (with_reducible repeat (first | refine blk_drewN ?_ _ | refine blk_drew ?_ | refine blk_alloc ?_ _)); refine blk_far ?_ NB465_507.out _; (with_reducible repeat (first | refine blk_drewN ?_ _ | refine blk_drew ?_ | refine blk_alloc ?_ _)); refine blk_far ?_ NB465_507.out _; (with_reducible repeat (first | refine blk_drewN ?_ _ | refine blk_drew ?_ | refine blk_alloc ?_ _)); refine blk_far ?_ NB465_507.out _; (with_reducible repeat (first | refine blk_drewN ?_ _ | refine blk_drew ?_ | refine blk_alloc ?_ _)); refine blk_far ?_ NB465_507.out _; (with_reducible repeat (first | refine blk_drewN ?_ _ | refine blk_drew ?_ | refine blk_alloc ?_ _)); exact BK465.out⟩, ⟨by (with_reducible repeat (first | refine blk_drewN ?_ _ | refine blk_drew ?_ | refine blk_alloc ?_ _)); refine blk_far ?_ NB473_507.out _; (with_reducible repeat (first | refine blk_drewN ?_ _ | refine blk_drew ?_ | refine blk_alloc ?_ _)); refine blk_far ?_ NB473_507.out _; (with_reducible repeat (first | refine blk_drewN ?_ _ | refine blk_drew ?_ | refine blk_alloc ?_ _)); refine blk_far ?_ NB473_507.out _; (with_reducible repeat (first | refine blk_drewN ?_ _ | refine blk_drew ?_ | refine blk_alloc ?_ _)); refine blk_far ?_ NB473_507.out _; (with_reducible repeat (first | refine blk_drewN ?_ _ | refine blk_drew ?_ | refine blk_alloc ?_ _)); refine blk_far ?_ NB473_507.out _; (with_reducible repeat (first | refine blk_drewN ?_ _ | refine blk_drew ?_ | refine blk_alloc ?_ _)); refine blk_far ?_ NB473_507.out _; (with_reducible repeat (first | refine blk_drewN ?_ _ | refine blk_drew ?_ | refine blk_alloc ?_ _)); exact BK473.out⟩, ⟨by (with_reducible repeat (first | refine blk_drewN ?_ _ | refine blk_drew ?_ | refine blk_alloc ?_ _)); refine blk_far ?_ NB481_507.out _; (with_reducible repeat (first | refine blk_drewN ?_ _ | refine blk_drew ?_ | refine blk_alloc ?_ _)); refine blk_far ?_ NB481_507.out _; (with_reducible repeat (first | refine blk_drewN ?_ _ | refine blk_drew ?_ | refine blk_alloc ?_ _)); refine blk_far ?_ NB481_507.out _; (with_reducible repeat (first | refine blk_drewN ?_ _ | refine blk_drew ?_ | refine blk_alloc ?_ _)); refine blk_far ?_ NB481_507.out _; (with_reducible repeat (first | refine blk_drewN ?_ _ | refine blk_drew ?_ | refine blk_alloc ?_ _)); refine blk_far ?_ NB481_507.out _; (with_reducible repeat (first | refine blk_drewN ?_ _ | refine blk_drew ?_ | refine blk_alloc ?_ _)); refine blk_far ?_ NB481_507.out _; (with_reducible repeat (first | refine blk_drewN ?_ _ | refine blk_drew ?_ | refine blk_alloc ?_ _)); exact BK481.out⟩, ⟨by (with_reducible repeat (first | refine blk_drewN ?_ _ | refine blk_drew ?_ | refine blk_alloc ?_ _)); refine blk_far ?_ NB490_507.out _; (with_reducible repeat (first | refine blk_drewN ?_ _ | refine blk_drew ?_ | refine blk_alloc ?_ _)); refine blk_far ?_ NB490_507.out _; (with_reducible repeat (first | refine blk_drewN ?_ _ | refine blk_drew ?_ | refine blk_alloc ?_ _)); refine blk_far ?_ NB490_507.out _; (with_reducible repeat (first | refine blk_drewN ?_ _ | refine blk_drew ?_ | refine blk_alloc ?_ _)); refine blk_far ?_ NB490_507.out _; (with_reducible repeat (first | refine blk_drewN ?_ _ | refine blk_drew ?_ | refine blk_alloc ?_ _)); refine blk_far ?_ NB490_507.out _; (with_reducible repeat (first | refine blk_drewN ?_ _ | refine blk_drew ?_ | refine blk_alloc ?_ _)); refine blk_far ?_ NB490_507.out _; (with_reducible repeat (first | refine blk_drewN ?_ _ | refine blk_drew ?_ | refine blk_alloc ?_ _)); exact BK490.out⟩, ⟨by (with_reducible repeat (first | refine blk_drewN ?_ _ | refine blk_drew ?_ | refine blk_alloc ?_ _)); refine blk_far ?_ NB491_507.out _; (with_reducible repeat (first | refine blk_drewN ?_ _ | refine blk_drew ?_ | refine blk_alloc ?_ _)); refine blk_far ?_ NB491_507.out _; (with_reducible repeat (first | refine blk_drewN ?_ _ | refine blk_drew ?_ | refine blk_alloc ?_ _)); refine blk_far ?_ NB491_507.out _; (with_reducible repeat (first | refine blk_drewN ?_ _ | refine blk_drew ?_ | refine blk_alloc ?_ _)); refine blk_far ?_ NB491_507.out _; (with_reducible repeat (first | refine blk_drewN ?_ _ | refine blk_drew ?_ | refine blk_alloc ?_ _)); refine blk_far ?_ NB491_507.out _; (with_reducible repeat (first | refine blk_drewN ?_ _ | refine blk_drew ?_ | refine blk_alloc ?_ _)); refine blk_far ?_ NB491_507.out _; (with_reducible repeat (first | refine blk_drewN ?_ _ | refine blk_drew ?_ | refine blk_alloc ?_ _)); exact BK491.out⟩, ⟨by (with_reducible repeat (first | refine blk_drewN ?_ _ | refine blk_drew ?_ | refine blk_alloc ?_ _)); refine blk_far ?_ NB499_507.out _; (with_reducible repeat (first | refine blk_drewN ?_ _ | refine blk_drew ?_ | refine blk_alloc ?_ _)); refine blk_far ?_ NB499_507.out _; (with_reducible repeat (first | refine blk_drewN ?_ _ | refine blk_drew ?_ | refine blk_alloc ?_ _)); refine blk_far ?_ NB499_507.out _; (with_reducible repeat (first | refine blk_drewN ?_ _ | refine blk_drew ?_ | refine blk_alloc ?_ _)); refine blk_far ?_ NB499_507.out _; (with_reducible repeat (first | refine blk_drewN ?_ _ | refine blk_drew ?_ | refine blk_alloc ?_ _)); refine blk_far ?_ NB499_507.out _; (with_reducible repeat (first | refine blk_drewN ?_ _ | refine blk_drew ?_ | refine blk_alloc ?_ _)); refine blk_far ?_ NB499_507.out _; (with_reducible repeat (first | refine blk_drewN ?_ _ | refine blk_drew ?_ | refine blk_alloc ?_ _)); exact BK499.out⟩, ⟨by (with_reducible repeat (first | refine blk_drewN ?_ _ | refine blk_drew ?_ | refine blk_alloc ?_ _)); refine blk_put (cs := #[.int .i64 t500, .int .i64 t501, .int .i64 t502, .int .i64 t503, .int .i64 t504, .int .i64 0]) ?_ 5 _ rfl; (with_reducible repeat (first | refine blk_drewN ?_ _ | refine blk_drew ?_ | refine blk_alloc ?_ _)); refine blk_put (cs := #[.int .i64 t500, .int .i64 t501, .int .i64 t502, .int .i64 t503, .int .i64 0, .int .i64 0]) ?_ 4 _ rfl; (with_reducible repeat (first | refine blk_drewN ?_ _ | refine blk_drew ?_ | refine blk_alloc ?_ _)); refine blk_put (cs := #[.int .i64 t500, .int .i64 t501, .int .i64 t502, .int .i64 0, .int .i64 0, .int .i64 0]) ?_ 3 _ rfl; (with_reducible repeat (first | refine blk_drewN ?_ _ | refine blk_drew ?_ | refine blk_alloc ?_ _)); refine blk_put (cs := #[.int .i64 t500, .int .i64 t501, .int .i64 0, .int .i64 0, .int .i64 0, .int .i64 0]) ?_ 2 _ rfl; (with_reducible repeat (first | refine blk_drewN ?_ _ | refine blk_drew ?_ | refine blk_alloc ?_ _)); refine blk_put (cs := #[.int .i64 t500, .int .i64 0, .int .i64 0, .int .i64 0, .int .i64 0, .int .i64 0]) ?_ 1 _ rfl; (with_reducible repeat (first | refine blk_drewN ?_ _ | refine blk_drew ?_ | refine blk_alloc ?_ _)); refine blk_put (cs := #[.int .i64 0, .int .i64 0, .int .i64 0, .int .i64 0, .int .i64 0, .int .i64 0]) ?_ 0 _ rfl; (with_reducible repeat (first | refine blk_drewN ?_ _ | refine blk_drew ?_ | refine blk_alloc ?_ _)); exact BK507.out⟩, ⟨by repeat (first | (with_reducible first | exact HB.out | apply below_alloc | apply pw_below_drewN | apply below_drew1 | refine below_set ?_ GE464.out | refine below_set ?_ GE465.out | refine below_set ?_ GE473.out | refine below_set ?_ GE481.out | refine below_set ?_ GE490.out | refine below_set ?_ GE491.out | refine below_set ?_ GE499.out | refine below_set ?_ GE507.out) | exact HB.out)⟩⟩
        · rw [if_neg c66] at H
          have c66b0 : ((!(t466 == t474) || (!(t467 == t475))) || ((!(t468 == t476) || (!(t469 == t477))) || ((!(t470 == t478) || (!(t471 == t479)))))) = false := by simpa using c66
          clear c66
          by_cases c82 : t498 = t506
          · rw [if_pos c82] at H
            have c82b0 : (t498 == t506) = true := beq_iff_eq.mpr c82
            have c82b1 : (t498 != t506) = false := bne_eq_false_iff_eq.mpr c82
            clear c82
            have H' := Aside0.mk H
            clear H
            have hnb83 := NB473_464.out
            have hnc83 := NB464_473.out
            have hnb84 := NB473_465.out
            have hnc84 := NB465_473.out
            have hnb85 := NB473_481.out
            have hnc85 := NB481_473.out
            have hnb86 := NB473_490.out
            have hnc86 := NB490_473.out
            have hnb87 := NB473_491.out
            have hnc87 := NB491_473.out
            have hnb88 := NB473_499.out
            have hnc88 := NB499_473.out
            have hnb89 := NB473_507.out
            have hnc89 := NB507_473.out
            have hcz90_0 : w56.cell? ⟨gb473, 0, none⟩ = some (.int .i64 t466) := (blk_cell BK473.out 0).trans rfl
            have hcz90_1 : w56.cell? ⟨gb473, 1, none⟩ = some (.int .i64 t467) := (blk_cell BK473.out 1).trans rfl
            have hcz90_2 : w56.cell? ⟨gb473, 2, none⟩ = some (.int .i64 t468) := (blk_cell BK473.out 2).trans rfl
            have hcz90_3 : w56.cell? ⟨gb473, 3, none⟩ = some (.int .i64 t469) := (blk_cell BK473.out 3).trans rfl
            have hcz90_4 : w56.cell? ⟨gb473, 4, none⟩ = some (.int .i64 t470) := (blk_cell BK473.out 4).trans rfl
            have hcz90_5 : w56.cell? ⟨gb473, 5, none⟩ = some (.int .i64 t471) := (blk_cell BK473.out 5).trans rfl
            have hfz90_0 := blk_frozen BK473.out 0
            have hfz90_1 := blk_frozen BK473.out 1
            have hfz90_2 := blk_frozen BK473.out 2
            have hfz90_3 := blk_frozen BK473.out 3
            have hfz90_4 := blk_frozen BK473.out 4
            have hfz90_5 := blk_frozen BK473.out 5
            have hnb91 := NB481_464.out
            have hnc91 := NB464_481.out
            have hnb92 := NB481_465.out
            have hnc92 := NB465_481.out
            have hnb93 := NB481_490.out
            have hnc93 := NB490_481.out
            have hnb94 := NB481_491.out
            have hnc94 := NB491_481.out
            have hnb95 := NB481_499.out
            have hnc95 := NB499_481.out
            have hnb96 := NB481_507.out
            have hnc96 := NB507_481.out
            have hcz97_0 : w56.cell? ⟨gb481, 0, none⟩ = some (.int .i64 t474) := (blk_cell BK481.out 0).trans rfl
            have hcz97_1 : w56.cell? ⟨gb481, 1, none⟩ = some (.int .i64 t475) := (blk_cell BK481.out 1).trans rfl
            have hcz97_2 : w56.cell? ⟨gb481, 2, none⟩ = some (.int .i64 t476) := (blk_cell BK481.out 2).trans rfl
            have hcz97_3 : w56.cell? ⟨gb481, 3, none⟩ = some (.int .i64 t477) := (blk_cell BK481.out 3).trans rfl
            have hcz97_4 : w56.cell? ⟨gb481, 4, none⟩ = some (.int .i64 t478) := (blk_cell BK481.out 4).trans rfl
            have hcz97_5 : w56.cell? ⟨gb481, 5, none⟩ = some (.int .i64 t479) := (blk_cell BK481.out 5).trans rfl
            have hfz97_0 := blk_frozen BK481.out 0
            have hfz97_1 := blk_frozen BK481.out 1
            have hfz97_2 := blk_frozen BK481.out 2
            have hfz97_3 := blk_frozen BK481.out 3
            have hfz97_4 := blk_frozen BK481.out 4
            have hfz97_5 := blk_frozen BK481.out 5
            have hnb98 := NB499_464.out
            have hnc98 := NB464_499.out
            have hnb99 := NB499_465.out
            have hnc99 := NB465_499.out
            have hnb100 := NB499_490.out
            have hnc100 := NB490_499.out
            have hnb101 := NB499_491.out
            have hnc101 := NB491_499.out
            have hnb102 := NB499_507.out
            have hnc102 := NB507_499.out
            have hcz103_0 : w56.cell? ⟨gb499, 0, none⟩ = some (.int .i64 t492) := (blk_cell BK499.out 0).trans rfl
            have hcz103_1 : w56.cell? ⟨gb499, 1, none⟩ = some (.int .i64 t493) := (blk_cell BK499.out 1).trans rfl
            have hcz103_2 : w56.cell? ⟨gb499, 2, none⟩ = some (.int .i64 t494) := (blk_cell BK499.out 2).trans rfl
            have hcz103_3 : w56.cell? ⟨gb499, 3, none⟩ = some (.int .i64 t495) := (blk_cell BK499.out 3).trans rfl
            have hcz103_4 : w56.cell? ⟨gb499, 4, none⟩ = some (.int .i64 t496) := (blk_cell BK499.out 4).trans rfl
            have hcz103_5 : w56.cell? ⟨gb499, 5, none⟩ = some (.int .i64 t497) := (blk_cell BK499.out 5).trans rfl
            have hfz103_0 := blk_frozen BK499.out 0
            have hfz103_1 := blk_frozen BK499.out 1
            have hfz103_2 := blk_frozen BK499.out 2
            have hfz103_3 := blk_frozen BK499.out 3
            have hfz103_4 := blk_frozen BK499.out 4
            have hfz103_5 := blk_frozen BK499.out 5
            have hnb104 := NB507_464.out
            have hnc104 := NB464_507.out
            have hnb105 := NB507_465.out
            have hnc105 := NB465_507.out
            have hnb106 := NB507_490.out
            have hnc106 := NB490_507.out
            have hnb107 := NB507_491.out
            have hnc107 := NB491_507.out
            have hcz108_0 : w56.cell? ⟨gb507, 0, none⟩ = some (.int .i64 0) := (blk_cell BK507.out 0).trans rfl
            have hcz108_1 : w56.cell? ⟨gb507, 1, none⟩ = some (.int .i64 0) := (blk_cell BK507.out 1).trans rfl
            have hcz108_2 : w56.cell? ⟨gb507, 2, none⟩ = some (.int .i64 0) := (blk_cell BK507.out 2).trans rfl
            have hcz108_3 : w56.cell? ⟨gb507, 3, none⟩ = some (.int .i64 0) := (blk_cell BK507.out 3).trans rfl
            have hcz108_4 : w56.cell? ⟨gb507, 4, none⟩ = some (.int .i64 0) := (blk_cell BK507.out 4).trans rfl
            have hcz108_5 : w56.cell? ⟨gb507, 5, none⟩ = some (.int .i64 0) := (blk_cell BK507.out 5).trans rfl
            have hfz108_0 := blk_frozen BK507.out 0
            have hfz108_1 := blk_frozen BK507.out 1
            have hfz108_2 := blk_frozen BK507.out 2
            have hfz108_3 := blk_frozen BK507.out 3
            have hfz108_4 := blk_frozen BK507.out 4
            have hfz108_5 := blk_frozen BK507.out 5
            go_wp2
            go_meet
            case rel => exact ⟨_, (((!(t492 == t500) || (!(t493 == t501))) || ((!(t494 == t502) || (!(t495 == t503))) || ((!(t496 == t504) || (!(t497 == t505))))))), (by first | rfl | (simp; done) | (simp [*]; done)), H', ⟨by first | omega | exact Nat.le_refl _⟩, ⟨by (with_reducible repeat (first | refine blk_drewN ?_ _ | refine blk_drew ?_ | refine blk_alloc ?_ _)); refine blk_far ?_ NB464_507.out _; (with_reducible repeat (first | refine blk_drewN ?_ _ | refine blk_drew ?_ | refine blk_alloc ?_ _)); refine blk_far ?_ NB464_507.out _; (with_reducible repeat (first | refine blk_drewN ?_ _ | refine blk_drew ?_ | refine blk_alloc ?_ _)); refine blk_far ?_ NB464_507.out _; (with_reducible repeat (first | refine blk_drewN ?_ _ | refine blk_drew ?_ | refine blk_alloc ?_ _)); refine blk_far ?_ NB464_507.out _; (with_reducible repeat (first | refine blk_drewN ?_ _ | refine blk_drew ?_ | refine blk_alloc ?_ _)); refine blk_far ?_ NB464_507.out _; (with_reducible repeat (first | refine blk_drewN ?_ _ | refine blk_drew ?_ | refine blk_alloc ?_ _)); refine blk_far ?_ NB464_507.out _; (with_reducible repeat (first | refine blk_drewN ?_ _ | refine blk_drew ?_ | refine blk_alloc ?_ _)); exact BK464.out⟩, ⟨by (with_reducible repeat (first | refine blk_drewN ?_ _ | refine blk_drew ?_ | refine blk_alloc ?_ _)); refine blk_far ?_ NB465_507.out _; (with_reducible repeat (first | refine blk_drewN ?_ _ | refine blk_drew ?_ | refine blk_alloc ?_ _)); refine blk_far ?_ NB465_507.out _; (with_reducible repeat (first | refine blk_drewN ?_ _ | refine blk_drew ?_ | refine blk_alloc ?_ _)); refine blk_far ?_ NB465_507.out _; (with_reducible repeat (first | refine blk_drewN ?_ _ | refine blk_drew ?_ | refine blk_alloc ?_ _)); refine blk_far ?_ NB465_507.out _; (with_reducible repeat (first | refine blk_drewN ?_ _ | refine blk_drew ?_ | refine blk_alloc ?_ _)); refine blk_far ?_ NB465_507.out _; (with_reducible repeat (first | refine blk_drewN ?_ _ | refine blk_drew ?_ | refine blk_alloc ?_ _)); refine blk_far ?_ NB465_507.out _; (with_reducible repeat (first | refine blk_drewN ?_ _ | refine blk_drew ?_ | refine blk_alloc ?_ _)); exact BK465.out⟩, ⟨by (with_reducible repeat (first | refine blk_drewN ?_ _ | refine blk_drew ?_ | refine blk_alloc ?_ _)); refine blk_far ?_ NB473_507.out _; (with_reducible repeat (first | refine blk_drewN ?_ _ | refine blk_drew ?_ | refine blk_alloc ?_ _)); refine blk_far ?_ NB473_507.out _; (with_reducible repeat (first | refine blk_drewN ?_ _ | refine blk_drew ?_ | refine blk_alloc ?_ _)); refine blk_far ?_ NB473_507.out _; (with_reducible repeat (first | refine blk_drewN ?_ _ | refine blk_drew ?_ | refine blk_alloc ?_ _)); refine blk_far ?_ NB473_507.out _; (with_reducible repeat (first | refine blk_drewN ?_ _ | refine blk_drew ?_ | refine blk_alloc ?_ _)); refine blk_far ?_ NB473_507.out _; (with_reducible repeat (first | refine blk_drewN ?_ _ | refine blk_drew ?_ | refine blk_alloc ?_ _)); refine blk_far ?_ NB473_507.out _; (with_reducible repeat (first | refine blk_drewN ?_ _ | refine blk_drew ?_ | refine blk_alloc ?_ _)); exact BK473.out⟩, ⟨by (with_reducible repeat (first | refine blk_drewN ?_ _ | refine blk_drew ?_ | refine blk_alloc ?_ _)); refine blk_far ?_ NB481_507.out _; (with_reducible repeat (first | refine blk_drewN ?_ _ | refine blk_drew ?_ | refine blk_alloc ?_ _)); refine blk_far ?_ NB481_507.out _; (with_reducible repeat (first | refine blk_drewN ?_ _ | refine blk_drew ?_ | refine blk_alloc ?_ _)); refine blk_far ?_ NB481_507.out _; (with_reducible repeat (first | refine blk_drewN ?_ _ | refine blk_drew ?_ | refine blk_alloc ?_ _)); refine blk_far ?_ NB481_507.out _; (with_reducible repeat (first | refine blk_drewN ?_ _ | refine blk_drew ?_ | refine blk_alloc ?_ _)); refine blk_far ?_ NB481_507.out _; (with_reducible repeat (first | refine blk_drewN ?_ _ | refine blk_drew ?_ | refine blk_alloc ?_ _)); refine blk_far ?_ NB481_507.out _; (with_reducible repeat (first | refine blk_drewN ?_ _ | refine blk_drew ?_ | refine blk_alloc ?_ _)); exact BK481.out⟩, ⟨by (with_reducible repeat (first | refine blk_drewN ?_ _ | refine blk_drew ?_ | refine blk_alloc ?_ _)); refine blk_far ?_ NB490_507.out _; (with_reducible repeat (first | refine blk_drewN ?_ _ | refine blk_drew ?_ | refine blk_alloc ?_ _)); refine blk_far ?_ NB490_507.out _; (with_reducible repeat (first | refine blk_drewN ?_ _ | refine blk_drew ?_ | refine blk_alloc ?_ _)); refine blk_far ?_ NB490_507.out _; (with_reducible repeat (first | refine blk_drewN ?_ _ | refine blk_drew ?_ | refine blk_alloc ?_ _)); refine blk_far ?_ NB490_507.out _; (with_reducible repeat (first | refine blk_drewN ?_ _ | refine blk_drew ?_ | refine blk_alloc ?_ _)); refine blk_far ?_ NB490_507.out _; (with_reducible repeat (first | refine blk_drewN ?_ _ | refine blk_drew ?_ | refine blk_alloc ?_ _)); refine blk_far ?_ NB490_507.out _; (with_reducible repeat (first | refine blk_drewN ?_ _ | refine blk_drew ?_ | refine blk_alloc ?_ _)); exact BK490.out⟩, ⟨by (with_reducible repeat (first | refine blk_drewN ?_ _ | refine blk_drew ?_ | refine blk_alloc ?_ _)); refine blk_far ?_ NB491_507.out _; (with_reducible repeat (first | refine blk_drewN ?_ _ | refine blk_drew ?_ | refine blk_alloc ?_ _)); refine blk_far ?_ NB491_507.out _; (with_reducible repeat (first | refine blk_drewN ?_ _ | refine blk_drew ?_ | refine blk_alloc ?_ _)); refine blk_far ?_ NB491_507.out _; (with_reducible repeat (first | refine blk_drewN ?_ _ | refine blk_drew ?_ | refine blk_alloc ?_ _)); refine blk_far ?_ NB491_507.out _; (with_reducible repeat (first | refine blk_drewN ?_ _ | refine blk_drew ?_ | refine blk_alloc ?_ _)); refine blk_far ?_ NB491_507.out _; (with_reducible repeat (first | refine blk_drewN ?_ _ | refine blk_drew ?_ | refine blk_alloc ?_ _)); refine blk_far ?_ NB491_507.out _; (with_reducible repeat (first | refine blk_drewN ?_ _ | refine blk_drew ?_ | refine blk_alloc ?_ _)); exact BK491.out⟩, ⟨by (with_reducible repeat (first | refine blk_drewN ?_ _ | refine blk_drew ?_ | refine blk_alloc ?_ _)); refine blk_far ?_ NB499_507.out _; (with_reducible repeat (first | refine blk_drewN ?_ _ | refine blk_drew ?_ | refine blk_alloc ?_ _)); refine blk_far ?_ NB499_507.out _; (with_reducible repeat (first | refine blk_drewN ?_ _ | refine blk_drew ?_ | refine blk_alloc ?_ _)); refine blk_far ?_ NB499_507.out _; (with_reducible repeat (first | refine blk_drewN ?_ _ | refine blk_drew ?_ | refine blk_alloc ?_ _)); refine blk_far ?_ NB499_507.out _; (with_reducible repeat (first | refine blk_drewN ?_ _ | refine blk_drew ?_ | refine blk_alloc ?_ _)); refine blk_far ?_ NB499_507.out _; (with_reducible repeat (first | refine blk_drewN ?_ _ | refine blk_drew ?_ | refine blk_alloc ?_ _)); refine blk_far ?_ NB499_507.out _; (with_reducible repeat (first | refine blk_drewN ?_ _ | refine blk_drew ?_ | refine blk_alloc ?_ _)); exact BK499.out⟩, ⟨by (with_reducible repeat (first | refine blk_drewN ?_ _ | refine blk_drew ?_ | refine blk_alloc ?_ _)); refine blk_put (cs := #[.int .i64 t500, .int .i64 t501, .int .i64 t502, .int .i64 t503, .int .i64 t504, .int .i64 0]) ?_ 5 _ rfl; (with_reducible repeat (first | refine blk_drewN ?_ _ | refine blk_drew ?_ | refine blk_alloc ?_ _)); refine blk_put (cs := #[.int .i64 t500, .int .i64 t501, .int .i64 t502, .int .i64 t503, .int .i64 0, .int .i64 0]) ?_ 4 _ rfl; (with_reducible repeat (first | refine blk_drewN ?_ _ | refine blk_drew ?_ | refine blk_alloc ?_ _)); refine blk_put (cs := #[.int .i64 t500, .int .i64 t501, .int .i64 t502, .int .i64 0, .int .i64 0, .int .i64 0]) ?_ 3 _ rfl; (with_reducible repeat (first | refine blk_drewN ?_ _ | refine blk_drew ?_ | refine blk_alloc ?_ _)); refine blk_put (cs := #[.int .i64 t500, .int .i64 t501, .int .i64 0, .int .i64 0, .int .i64 0, .int .i64 0]) ?_ 2 _ rfl; (with_reducible repeat (first | refine blk_drewN ?_ _ | refine blk_drew ?_ | refine blk_alloc ?_ _)); refine blk_put (cs := #[.int .i64 t500, .int .i64 0, .int .i64 0, .int .i64 0, .int .i64 0, .int .i64 0]) ?_ 1 _ rfl; (with_reducible repeat (first | refine blk_drewN ?_ _ | refine blk_drew ?_ | refine blk_alloc ?_ _)); refine blk_put (cs := #[.int .i64 0, .int .i64 0, .int .i64 0, .int .i64 0, .int .i64 0, .int .i64 0]) ?_ 0 _ rfl; (with_reducible repeat (first | refine blk_drewN ?_ _ | refine blk_drew ?_ | refine blk_alloc ?_ _)); exact BK507.out⟩, ⟨by repeat (first | (with_reducible first | exact HB.out | apply below_alloc | apply pw_below_drewN | apply below_drew1 | refine below_set ?_ GE464.out | refine below_set ?_ GE465.out | refine below_set ?_ GE473.out | refine below_set ?_ GE481.out | refine below_set ?_ GE490.out | refine below_set ?_ GE491.out | refine below_set ?_ GE499.out | refine below_set ?_ GE507.out) | exact HB.out)⟩⟩
          · rw [if_neg c82] at H
            have c82b0 : (t498 == t506) = false := beq_eq_false_iff_ne.mpr c82
            have c82b1 : (t498 != t506) = true := bne_iff_ne.mpr c82
            have H' := Aside0.mk H
            clear H
            have hnb109 := NB473_464.out
            have hnc109 := NB464_473.out
            have hnb110 := NB473_465.out
            have hnc110 := NB465_473.out
            have hnb111 := NB473_481.out
            have hnc111 := NB481_473.out
            have hnb112 := NB473_490.out
            have hnc112 := NB490_473.out
            have hnb113 := NB473_491.out
            have hnc113 := NB491_473.out
            have hnb114 := NB473_499.out
            have hnc114 := NB499_473.out
            have hnb115 := NB473_507.out
            have hnc115 := NB507_473.out
            have hcz116_0 : w56.cell? ⟨gb473, 0, none⟩ = some (.int .i64 t466) := (blk_cell BK473.out 0).trans rfl
            have hcz116_1 : w56.cell? ⟨gb473, 1, none⟩ = some (.int .i64 t467) := (blk_cell BK473.out 1).trans rfl
            have hcz116_2 : w56.cell? ⟨gb473, 2, none⟩ = some (.int .i64 t468) := (blk_cell BK473.out 2).trans rfl
            have hcz116_3 : w56.cell? ⟨gb473, 3, none⟩ = some (.int .i64 t469) := (blk_cell BK473.out 3).trans rfl
            have hcz116_4 : w56.cell? ⟨gb473, 4, none⟩ = some (.int .i64 t470) := (blk_cell BK473.out 4).trans rfl
            have hcz116_5 : w56.cell? ⟨gb473, 5, none⟩ = some (.int .i64 t471) := (blk_cell BK473.out 5).trans rfl
            have hfz116_0 := blk_frozen BK473.out 0
            have hfz116_1 := blk_frozen BK473.out 1
            have hfz116_2 := blk_frozen BK473.out 2
            have hfz116_3 := blk_frozen BK473.out 3
            have hfz116_4 := blk_frozen BK473.out 4
            have hfz116_5 := blk_frozen BK473.out 5
            have hnb117 := NB481_464.out
            have hnc117 := NB464_481.out
            have hnb118 := NB481_465.out
            have hnc118 := NB465_481.out
            have hnb119 := NB481_490.out
            have hnc119 := NB490_481.out
            have hnb120 := NB481_491.out
            have hnc120 := NB491_481.out
            have hnb121 := NB481_499.out
            have hnc121 := NB499_481.out
            have hnb122 := NB481_507.out
            have hnc122 := NB507_481.out
            have hcz123_0 : w56.cell? ⟨gb481, 0, none⟩ = some (.int .i64 t474) := (blk_cell BK481.out 0).trans rfl
            have hcz123_1 : w56.cell? ⟨gb481, 1, none⟩ = some (.int .i64 t475) := (blk_cell BK481.out 1).trans rfl
            have hcz123_2 : w56.cell? ⟨gb481, 2, none⟩ = some (.int .i64 t476) := (blk_cell BK481.out 2).trans rfl
            have hcz123_3 : w56.cell? ⟨gb481, 3, none⟩ = some (.int .i64 t477) := (blk_cell BK481.out 3).trans rfl
            have hcz123_4 : w56.cell? ⟨gb481, 4, none⟩ = some (.int .i64 t478) := (blk_cell BK481.out 4).trans rfl
            have hcz123_5 : w56.cell? ⟨gb481, 5, none⟩ = some (.int .i64 t479) := (blk_cell BK481.out 5).trans rfl
            have hfz123_0 := blk_frozen BK481.out 0
            have hfz123_1 := blk_frozen BK481.out 1
            have hfz123_2 := blk_frozen BK481.out 2
            have hfz123_3 := blk_frozen BK481.out 3
            have hfz123_4 := blk_frozen BK481.out 4
            have hfz123_5 := blk_frozen BK481.out 5
            go_wp2
            go_meet
            case rel => exact ⟨_, (true), (by first | rfl | (simp; done) | (simp [*]; done)), H', ⟨by first | omega | exact Nat.le_refl _⟩, ⟨by (with_reducible repeat (first | refine blk_drewN ?_ _ | refine blk_drew ?_ | refine blk_alloc ?_ _)); refine blk_far ?_ NB464_507.out _; (with_reducible repeat (first | refine blk_drewN ?_ _ | refine blk_drew ?_ | refine blk_alloc ?_ _)); refine blk_far ?_ NB464_507.out _; (with_reducible repeat (first | refine blk_drewN ?_ _ | refine blk_drew ?_ | refine blk_alloc ?_ _)); refine blk_far ?_ NB464_507.out _; (with_reducible repeat (first | refine blk_drewN ?_ _ | refine blk_drew ?_ | refine blk_alloc ?_ _)); refine blk_far ?_ NB464_507.out _; (with_reducible repeat (first | refine blk_drewN ?_ _ | refine blk_drew ?_ | refine blk_alloc ?_ _)); refine blk_far ?_ NB464_507.out _; (with_reducible repeat (first | refine blk_drewN ?_ _ | refine blk_drew ?_ | refine blk_alloc ?_ _)); refine blk_far ?_ NB464_507.out _; (with_reducible repeat (first | refine blk_drewN ?_ _ | refine blk_drew ?_ | refine blk_alloc ?_ _)); exact BK464.out⟩, ⟨by (with_reducible repeat (first | refine blk_drewN ?_ _ | refine blk_drew ?_ | refine blk_alloc ?_ _)); refine blk_far ?_ NB465_507.out _; (with_reducible repeat (first | refine blk_drewN ?_ _ | refine blk_drew ?_ | refine blk_alloc ?_ _)); refine blk_far ?_ NB465_507.out _; (with_reducible repeat (first | refine blk_drewN ?_ _ | refine blk_drew ?_ | refine blk_alloc ?_ _)); refine blk_far ?_ NB465_507.out _; (with_reducible repeat (first | refine blk_drewN ?_ _ | refine blk_drew ?_ | refine blk_alloc ?_ _)); refine blk_far ?_ NB465_507.out _; (with_reducible repeat (first | refine blk_drewN ?_ _ | refine blk_drew ?_ | refine blk_alloc ?_ _)); refine blk_far ?_ NB465_507.out _; (with_reducible repeat (first | refine blk_drewN ?_ _ | refine blk_drew ?_ | refine blk_alloc ?_ _)); refine blk_far ?_ NB465_507.out _; (with_reducible repeat (first | refine blk_drewN ?_ _ | refine blk_drew ?_ | refine blk_alloc ?_ _)); exact BK465.out⟩, ⟨by (with_reducible repeat (first | refine blk_drewN ?_ _ | refine blk_drew ?_ | refine blk_alloc ?_ _)); refine blk_far ?_ NB473_507.out _; (with_reducible repeat (first | refine blk_drewN ?_ _ | refine blk_drew ?_ | refine blk_alloc ?_ _)); refine blk_far ?_ NB473_507.out _; (with_reducible repeat (first | refine blk_drewN ?_ _ | refine blk_drew ?_ | refine blk_alloc ?_ _)); refine blk_far ?_ NB473_507.out _; (with_reducible repeat (first | refine blk_drewN ?_ _ | refine blk_drew ?_ | refine blk_alloc ?_ _)); refine blk_far ?_ NB473_507.out _; (with_reducible repeat (first | refine blk_drewN ?_ _ | refine blk_drew ?_ | refine blk_alloc ?_ _)); refine blk_far ?_ NB473_507.out _; (with_reducible repeat (first | refine blk_drewN ?_ _ | refine blk_drew ?_ | refine blk_alloc ?_ _)); refine blk_far ?_ NB473_507.out _; (with_reducible repeat (first | refine blk_drewN ?_ _ | refine blk_drew ?_ | refine blk_alloc ?_ _)); exact BK473.out⟩, ⟨by (with_reducible repeat (first | refine blk_drewN ?_ _ | refine blk_drew ?_ | refine blk_alloc ?_ _)); refine blk_far ?_ NB481_507.out _; (with_reducible repeat (first | refine blk_drewN ?_ _ | refine blk_drew ?_ | refine blk_alloc ?_ _)); refine blk_far ?_ NB481_507.out _; (with_reducible repeat (first | refine blk_drewN ?_ _ | refine blk_drew ?_ | refine blk_alloc ?_ _)); refine blk_far ?_ NB481_507.out _; (with_reducible repeat (first | refine blk_drewN ?_ _ | refine blk_drew ?_ | refine blk_alloc ?_ _)); refine blk_far ?_ NB481_507.out _; (with_reducible repeat (first | refine blk_drewN ?_ _ | refine blk_drew ?_ | refine blk_alloc ?_ _)); refine blk_far ?_ NB481_507.out _; (with_reducible repeat (first | refine blk_drewN ?_ _ | refine blk_drew ?_ | refine blk_alloc ?_ _)); refine blk_far ?_ NB481_507.out _; (with_reducible repeat (first | refine blk_drewN ?_ _ | refine blk_drew ?_ | refine blk_alloc ?_ _)); exact BK481.out⟩, ⟨by (with_reducible repeat (first | refine blk_drewN ?_ _ | refine blk_drew ?_ | refine blk_alloc ?_ _)); refine blk_far ?_ NB490_507.out _; (with_reducible repeat (first | refine blk_drewN ?_ _ | refine blk_drew ?_ | refine blk_alloc ?_ _)); refine blk_far ?_ NB490_507.out _; (with_reducible repeat (first | refine blk_drewN ?_ _ | refine blk_drew ?_ | refine blk_alloc ?_ _)); refine blk_far ?_ NB490_507.out _; (with_reducible repeat (first | refine blk_drewN ?_ _ | refine blk_drew ?_ | refine blk_alloc ?_ _)); refine blk_far ?_ NB490_507.out _; (with_reducible repeat (first | refine blk_drewN ?_ _ | refine blk_drew ?_ | refine blk_alloc ?_ _)); refine blk_far ?_ NB490_507.out _; (with_reducible repeat (first | refine blk_drewN ?_ _ | refine blk_drew ?_ | refine blk_alloc ?_ _)); refine blk_far ?_ NB490_507.out _; (with_reducible repeat (first | refine blk_drewN ?_ _ | refine blk_drew ?_ | refine blk_alloc ?_ _)); exact BK490.out⟩, ⟨by (with_reducible repeat (first | refine blk_drewN ?_ _ | refine blk_drew ?_ | refine blk_alloc ?_ _)); refine blk_far ?_ NB491_507.out _; (with_reducible repeat (first | refine blk_drewN ?_ _ | refine blk_drew ?_ | refine blk_alloc ?_ _)); refine blk_far ?_ NB491_507.out _; (with_reducible repeat (first | refine blk_drewN ?_ _ | refine blk_drew ?_ | refine blk_alloc ?_ _)); refine blk_far ?_ NB491_507.out _; (with_reducible repeat (first | refine blk_drewN ?_ _ | refine blk_drew ?_ | refine blk_alloc ?_ _)); refine blk_far ?_ NB491_507.out _; (with_reducible repeat (first | refine blk_drewN ?_ _ | refine blk_drew ?_ | refine blk_alloc ?_ _)); refine blk_far ?_ NB491_507.out _; (with_reducible repeat (first | refine blk_drewN ?_ _ | refine blk_drew ?_ | refine blk_alloc ?_ _)); refine blk_far ?_ NB491_507.out _; (with_reducible repeat (first | refine blk_drewN ?_ _ | refine blk_drew ?_ | refine blk_alloc ?_ _)); exact BK491.out⟩, ⟨by (with_reducible repeat (first | refine blk_drewN ?_ _ | refine blk_drew ?_ | refine blk_alloc ?_ _)); refine blk_far ?_ NB499_507.out _; (with_reducible repeat (first | refine blk_drewN ?_ _ | refine blk_drew ?_ | refine blk_alloc ?_ _)); refine blk_far ?_ NB499_507.out _; (with_reducible repeat (first | refine blk_drewN ?_ _ | refine blk_drew ?_ | refine blk_alloc ?_ _)); refine blk_far ?_ NB499_507.out _; (with_reducible repeat (first | refine blk_drewN ?_ _ | refine blk_drew ?_ | refine blk_alloc ?_ _)); refine blk_far ?_ NB499_507.out _; (with_reducible repeat (first | refine blk_drewN ?_ _ | refine blk_drew ?_ | refine blk_alloc ?_ _)); refine blk_far ?_ NB499_507.out _; (with_reducible repeat (first | refine blk_drewN ?_ _ | refine blk_drew ?_ | refine blk_alloc ?_ _)); refine blk_far ?_ NB499_507.out _; (with_reducible repeat (first | refine blk_drewN ?_ _ | refine blk_drew ?_ | refine blk_alloc ?_ _)); exact BK499.out⟩, ⟨by (with_reducible repeat (first | refine blk_drewN ?_ _ | refine blk_drew ?_ | refine blk_alloc ?_ _)); refine blk_put (cs := #[.int .i64 t500, .int .i64 t501, .int .i64 t502, .int .i64 t503, .int .i64 t504, .int .i64 0]) ?_ 5 _ rfl; (with_reducible repeat (first | refine blk_drewN ?_ _ | refine blk_drew ?_ | refine blk_alloc ?_ _)); refine blk_put (cs := #[.int .i64 t500, .int .i64 t501, .int .i64 t502, .int .i64 t503, .int .i64 0, .int .i64 0]) ?_ 4 _ rfl; (with_reducible repeat (first | refine blk_drewN ?_ _ | refine blk_drew ?_ | refine blk_alloc ?_ _)); refine blk_put (cs := #[.int .i64 t500, .int .i64 t501, .int .i64 t502, .int .i64 0, .int .i64 0, .int .i64 0]) ?_ 3 _ rfl; (with_reducible repeat (first | refine blk_drewN ?_ _ | refine blk_drew ?_ | refine blk_alloc ?_ _)); refine blk_put (cs := #[.int .i64 t500, .int .i64 t501, .int .i64 0, .int .i64 0, .int .i64 0, .int .i64 0]) ?_ 2 _ rfl; (with_reducible repeat (first | refine blk_drewN ?_ _ | refine blk_drew ?_ | refine blk_alloc ?_ _)); refine blk_put (cs := #[.int .i64 t500, .int .i64 0, .int .i64 0, .int .i64 0, .int .i64 0, .int .i64 0]) ?_ 1 _ rfl; (with_reducible repeat (first | refine blk_drewN ?_ _ | refine blk_drew ?_ | refine blk_alloc ?_ _)); refine blk_put (cs := #[.int .i64 0, .int .i64 0, .int .i64 0, .int .i64 0, .int .i64 0, .int .i64 0]) ?_ 0 _ rfl; (with_reducible repeat (first | refine blk_drewN ?_ _ | refine blk_drew ?_ | refine blk_alloc ?_ _)); exact BK507.out⟩, ⟨by repeat (first | (with_reducible first | exact HB.out | apply below_alloc | apply pw_below_drewN | apply below_drew1 | refine below_set ?_ GE464.out | refine below_set ?_ GE465.out | refine below_set ?_ GE473.out | refine below_set ?_ GE481.out | refine below_set ?_ GE490.out | refine below_set ?_ GE491.out | refine below_set ?_ GE499.out | refine below_set ?_ GE507.out) | exact HB.out)⟩⟩
      · rw [if_neg c65] at H
        have c65b0 : (t472 == t480) = false := beq_eq_false_iff_ne.mpr c65
        have c65b1 : (t472 != t480) = true := bne_iff_ne.mpr c65
        (first | rw [c65b0] | (simp only [i64_w, i32_w]; rw [c65b0]) | skip)
        have H' := Aside0.mk H
        clear H
        go_wp2
        go_meet
        case rel => exact ⟨_, (true), (by first | rfl | (simp; done) | (simp [*]; done)), H', ⟨by first | omega | exact Nat.le_refl _⟩, ⟨by (with_reducible repeat (first | refine blk_drewN ?_ _ | refine blk_drew ?_ | refine blk_alloc ?_ _)); refine blk_far ?_ NB464_507.out _; (with_reducible repeat (first | refine blk_drewN ?_ _ | refine blk_drew ?_ | refine blk_alloc ?_ _)); refine blk_far ?_ NB464_507.out _; (with_reducible repeat (first | refine blk_drewN ?_ _ | refine blk_drew ?_ | refine blk_alloc ?_ _)); refine blk_far ?_ NB464_507.out _; (with_reducible repeat (first | refine blk_drewN ?_ _ | refine blk_drew ?_ | refine blk_alloc ?_ _)); refine blk_far ?_ NB464_507.out _; (with_reducible repeat (first | refine blk_drewN ?_ _ | refine blk_drew ?_ | refine blk_alloc ?_ _)); refine blk_far ?_ NB464_507.out _; (with_reducible repeat (first | refine blk_drewN ?_ _ | refine blk_drew ?_ | refine blk_alloc ?_ _)); refine blk_far ?_ NB464_507.out _; (with_reducible repeat (first | refine blk_drewN ?_ _ | refine blk_drew ?_ | refine blk_alloc ?_ _)); exact BK464.out⟩, ⟨by (with_reducible repeat (first | refine blk_drewN ?_ _ | refine blk_drew ?_ | refine blk_alloc ?_ _)); refine blk_far ?_ NB465_507.out _; (with_reducible repeat (first | refine blk_drewN ?_ _ | refine blk_drew ?_ | refine blk_alloc ?_ _)); refine blk_far ?_ NB465_507.out _; (with_reducible repeat (first | refine blk_drewN ?_ _ | refine blk_drew ?_ | refine blk_alloc ?_ _)); refine blk_far ?_ NB465_507.out _; (with_reducible repeat (first | refine blk_drewN ?_ _ | refine blk_drew ?_ | refine blk_alloc ?_ _)); refine blk_far ?_ NB465_507.out _; (with_reducible repeat (first | refine blk_drewN ?_ _ | refine blk_drew ?_ | refine blk_alloc ?_ _)); refine blk_far ?_ NB465_507.out _; (with_reducible repeat (first | refine blk_drewN ?_ _ | refine blk_drew ?_ | refine blk_alloc ?_ _)); refine blk_far ?_ NB465_507.out _; (with_reducible repeat (first | refine blk_drewN ?_ _ | refine blk_drew ?_ | refine blk_alloc ?_ _)); exact BK465.out⟩, ⟨by (with_reducible repeat (first | refine blk_drewN ?_ _ | refine blk_drew ?_ | refine blk_alloc ?_ _)); refine blk_far ?_ NB473_507.out _; (with_reducible repeat (first | refine blk_drewN ?_ _ | refine blk_drew ?_ | refine blk_alloc ?_ _)); refine blk_far ?_ NB473_507.out _; (with_reducible repeat (first | refine blk_drewN ?_ _ | refine blk_drew ?_ | refine blk_alloc ?_ _)); refine blk_far ?_ NB473_507.out _; (with_reducible repeat (first | refine blk_drewN ?_ _ | refine blk_drew ?_ | refine blk_alloc ?_ _)); refine blk_far ?_ NB473_507.out _; (with_reducible repeat (first | refine blk_drewN ?_ _ | refine blk_drew ?_ | refine blk_alloc ?_ _)); refine blk_far ?_ NB473_507.out _; (with_reducible repeat (first | refine blk_drewN ?_ _ | refine blk_drew ?_ | refine blk_alloc ?_ _)); refine blk_far ?_ NB473_507.out _; (with_reducible repeat (first | refine blk_drewN ?_ _ | refine blk_drew ?_ | refine blk_alloc ?_ _)); exact BK473.out⟩, ⟨by (with_reducible repeat (first | refine blk_drewN ?_ _ | refine blk_drew ?_ | refine blk_alloc ?_ _)); refine blk_far ?_ NB481_507.out _; (with_reducible repeat (first | refine blk_drewN ?_ _ | refine blk_drew ?_ | refine blk_alloc ?_ _)); refine blk_far ?_ NB481_507.out _; (with_reducible repeat (first | refine blk_drewN ?_ _ | refine blk_drew ?_ | refine blk_alloc ?_ _)); refine blk_far ?_ NB481_507.out _; (with_reducible repeat (first | refine blk_drewN ?_ _ | refine blk_drew ?_ | refine blk_alloc ?_ _)); refine blk_far ?_ NB481_507.out _; (with_reducible repeat (first | refine blk_drewN ?_ _ | refine blk_drew ?_ | refine blk_alloc ?_ _)); refine blk_far ?_ NB481_507.out _; (with_reducible repeat (first | refine blk_drewN ?_ _ | refine blk_drew ?_ | refine blk_alloc ?_ _)); refine blk_far ?_ NB481_507.out _; (with_reducible repeat (first | refine blk_drewN ?_ _ | refine blk_drew ?_ | refine blk_alloc ?_ _)); exact BK481.out⟩, ⟨by (with_reducible repeat (first | refine blk_drewN ?_ _ | refine blk_drew ?_ | refine blk_alloc ?_ _)); refine blk_far ?_ NB490_507.out _; (with_reducible repeat (first | refine blk_drewN ?_ _ | refine blk_drew ?_ | refine blk_alloc ?_ _)); refine blk_far ?_ NB490_507.out _; (with_reducible repeat (first | refine blk_drewN ?_ _ | refine blk_drew ?_ | refine blk_alloc ?_ _)); refine blk_far ?_ NB490_507.out _; (with_reducible repeat (first | refine blk_drewN ?_ _ | refine blk_drew ?_ | refine blk_alloc ?_ _)); refine blk_far ?_ NB490_507.out _; (with_reducible repeat (first | refine blk_drewN ?_ _ | refine blk_drew ?_ | refine blk_alloc ?_ _)); refine blk_far ?_ NB490_507.out _; (with_reducible repeat (first | refine blk_drewN ?_ _ | refine blk_drew ?_ | refine blk_alloc ?_ _)); refine blk_far ?_ NB490_507.out _; (with_reducible repeat (first | refine blk_drewN ?_ _ | refine blk_drew ?_ | refine blk_alloc ?_ _)); exact BK490.out⟩, ⟨by (with_reducible repeat (first | refine blk_drewN ?_ _ | refine blk_drew ?_ | refine blk_alloc ?_ _)); refine blk_far ?_ NB491_507.out _; (with_reducible repeat (first | refine blk_drewN ?_ _ | refine blk_drew ?_ | refine blk_alloc ?_ _)); refine blk_far ?_ NB491_507.out _; (with_reducible repeat (first | refine blk_drewN ?_ _ | refine blk_drew ?_ | refine blk_alloc ?_ _)); refine blk_far ?_ NB491_507.out _; (with_reducible repeat (first | refine blk_drewN ?_ _ | refine blk_drew ?_ | refine blk_alloc ?_ _)); refine blk_far ?_ NB491_507.out _; (with_reducible repeat (first | refine blk_drewN ?_ _ | refine blk_drew ?_ | refine blk_alloc ?_ _)); refine blk_far ?_ NB491_507.out _; (with_reducible repeat (first | refine blk_drewN ?_ _ | refine blk_drew ?_ | refine blk_alloc ?_ _)); refine blk_far ?_ NB491_507.out _; (with_reducible repeat (first | refine blk_drewN ?_ _ | refine blk_drew ?_ | refine blk_alloc ?_ _)); exact BK491.out⟩, ⟨by (with_reducible repeat (first | refine blk_drewN ?_ _ | refine blk_drew ?_ | refine blk_alloc ?_ _)); refine blk_far ?_ NB499_507.out _; (with_reducible repeat (first | refine blk_drewN ?_ _ | refine blk_drew ?_ | refine blk_alloc ?_ _)); refine blk_far ?_ NB499_507.out _; (with_reducible repeat (first | refine blk_drewN ?_ _ | refine blk_drew ?_ | refine blk_alloc ?_ _)); refine blk_far ?_ NB499_507.out _; (with_reducible repeat (first | refine blk_drewN ?_ _ | refine blk_drew ?_ | refine blk_alloc ?_ _)); refine blk_far ?_ NB499_507.out _; (with_reducible repeat (first | refine blk_drewN ?_ _ | refine blk_drew ?_ | refine blk_alloc ?_ _)); refine blk_far ?_ NB499_507.out _; (with_reducible repeat (first | refine blk_drewN ?_ _ | refine blk_drew ?_ | refine blk_alloc ?_ _)); refine blk_far ?_ NB499_507.out _; (with_reducible repeat (first | refine blk_drewN ?_ _ | refine blk_drew ?_ | refine blk_alloc ?_ _)); exact BK499.out⟩, ⟨by (with_reducible repeat (first | refine blk_drewN ?_ _ | refine blk_drew ?_ | refine blk_alloc ?_ _)); refine blk_put (cs := #[.int .i64 t500, .int .i64 t501, .int .i64 t502, .int .i64 t503, .int .i64 t504, .int .i64 0]) ?_ 5 _ rfl; (with_reducible repeat (first | refine blk_drewN ?_ _ | refine blk_drew ?_ | refine blk_alloc ?_ _)); refine blk_put (cs := #[.int .i64 t500, .int .i64 t501, .int .i64 t502, .int .i64 t503, .int .i64 0, .int .i64 0]) ?_ 4 _ rfl; (with_reducible repeat (first | refine blk_drewN ?_ _ | refine blk_drew ?_ | refine blk_alloc ?_ _)); refine blk_put (cs := #[.int .i64 t500, .int .i64 t501, .int .i64 t502, .int .i64 0, .int .i64 0, .int .i64 0]) ?_ 3 _ rfl; (with_reducible repeat (first | refine blk_drewN ?_ _ | refine blk_drew ?_ | refine blk_alloc ?_ _)); refine blk_put (cs := #[.int .i64 t500, .int .i64 t501, .int .i64 0, .int .i64 0, .int .i64 0, .int .i64 0]) ?_ 2 _ rfl; (with_reducible repeat (first | refine blk_drewN ?_ _ | refine blk_drew ?_ | refine blk_alloc ?_ _)); refine blk_put (cs := #[.int .i64 t500, .int .i64 0, .int .i64 0, .int .i64 0, .int .i64 0, .int .i64 0]) ?_ 1 _ rfl; (with_reducible repeat (first | refine blk_drewN ?_ _ | refine blk_drew ?_ | refine blk_alloc ?_ _)); refine blk_put (cs := #[.int .i64 0, .int .i64 0, .int .i64 0, .int .i64 0, .int .i64 0, .int .i64 0]) ?_ 0 _ rfl; (with_reducible repeat (first | refine blk_drewN ?_ _ | refine blk_drew ?_ | refine blk_alloc ?_ _)); exact BK507.out⟩, ⟨by repeat (first | (with_reducible first | exact HB.out | apply below_alloc | apply pw_below_drewN | apply below_drew1 | refine below_set ?_ GE464.out | refine below_set ?_ GE465.out | refine below_set ?_ GE473.out | refine below_set ?_ GE481.out | refine below_set ?_ GE490.out | refine below_set ?_ GE491.out | refine below_set ?_ GE499.out | refine below_set ?_ GE507.out) | exact HB.out)⟩⟩
    case rest =>
      clear HC10
      try clear c1
      try clear c2
      try clear p2
      try clear c3
      try clear c4
      try clear c5
      try clear c6
      try clear c7
      try clear c8
      try clear c9
      try clear c10
      try clear c11
      try clear c12
      try clear c14
      try clear c19
      try clear c20
      try clear c26
      try clear c27
      try clear c28
      try clear c33
      try clear c34
      try clear c35
      try clear c36
      try clear c37
      try clear c39
      try clear c40
      try clear c41
      try clear c42
      try clear c46
      try clear c47
      try clear c48
      try clear c49
      try clear c50
      try clear c51
      try clear c52
      try clear c53
      try clear c54
      try clear c55
      try clear c56
      try clear c57
      try clear c58
      try clear c59
      try clear c60
      try clear c61
      try clear c62
      try clear c63
      try clear c65
      try clear c65b0
      try clear c65b1
      try clear c66
      try clear c66b0
      try clear c67
      try clear c68
      try clear c69
      try clear c70
      try clear c71
      try clear c72
      try clear c73
      try clear c75
      try clear c76
      try clear c77
      try clear c78
      try clear c79
      try clear c80
      try clear c82
      try clear c82b0
      try clear c82b1
      try clear c83
      try clear c84
      try clear c85
      try clear c86
      try clear c87
      try clear c88
      try clear c89
      try clear c91
      try clear c92
      try clear c93
      try clear c94
      try clear c95
      try clear c96
      try clear c98
      try clear c99
      try clear c100
      try clear c101
      try clear c102
      try clear c104
      try clear c105
      try clear c106
      try clear c107
      try clear c109
      try clear c110
      try clear c111
      try clear c112
      try clear c113
      try clear c114
      try clear c115
      try clear c117
      try clear c118
      try clear c119
      try clear c120
      try clear c121
      try clear c122
      try clear hcz103_0
      try clear hcz103_1
      try clear hcz103_2
      try clear hcz103_3
      try clear hcz103_4
      try clear hcz103_5
      try clear hcz108_0
      try clear hcz108_1
      try clear hcz108_2
      try clear hcz108_3
      try clear hcz108_4
      try clear hcz108_5
      try clear hcz116_0
      try clear hcz116_1
      try clear hcz116_2
      try clear hcz116_3
      try clear hcz116_4
      try clear hcz116_5
      try clear hcz123_0
      try clear hcz123_1
      try clear hcz123_2
      try clear hcz123_3
      try clear hcz123_4
      try clear hcz123_5
      try clear hcz15_0
      try clear hcz15_1
      try clear hcz15_2
      try clear hcz15_3
      try clear hcz15_4
      try clear hcz15_5
      try clear hcz16_0
      try clear hcz16_1
      try clear hcz16_2
      try clear hcz16_3
      try clear hcz16_4
      try clear hcz16_5
      try clear hcz21_0
      try clear hcz21_1
      try clear hcz21_2
      try clear hcz21_3
      try clear hcz21_4
      try clear hcz21_5
      try clear hcz22_0
      try clear hcz22_1
      try clear hcz22_2
      try clear hcz22_3
      try clear hcz22_4
      try clear hcz22_5
      try clear hcz23_0
      try clear hcz23_1
      try clear hcz23_2
      try clear hcz23_3
      try clear hcz23_4
      try clear hcz23_5
      try clear hcz29_0
      try clear hcz29_1
      try clear hcz29_2
      try clear hcz29_3
      try clear hcz29_4
      try clear hcz29_5
      try clear hcz38_0
      try clear hcz38_1
      try clear hcz38_2
      try clear hcz38_3
      try clear hcz38_4
      try clear hcz38_5
      try clear hcz43_0
      try clear hcz43_1
      try clear hcz52_0
      try clear hcz52_1
      try clear hcz52_2
      try clear hcz52_3
      try clear hcz52_4
      try clear hcz52_5
      try clear hcz53_0
      try clear hcz53_1
      try clear hcz53_2
      try clear hcz53_3
      try clear hcz53_4
      try clear hcz53_5
      try clear hcz54_0
      try clear hcz54_1
      try clear hcz64_0
      try clear hcz64_1
      try clear hcz64_2
      try clear hcz64_3
      try clear hcz64_4
      try clear hcz64_5
      try clear hcz74_0
      try clear hcz74_1
      try clear hcz74_2
      try clear hcz74_3
      try clear hcz74_4
      try clear hcz74_5
      try clear hcz81_0
      try clear hcz81_1
      try clear hcz81_2
      try clear hcz81_3
      try clear hcz81_4
      try clear hcz81_5
      try clear hcz90_0
      try clear hcz90_1
      try clear hcz90_2
      try clear hcz90_3
      try clear hcz90_4
      try clear hcz90_5
      try clear hcz97_0
      try clear hcz97_1
      try clear hcz97_2
      try clear hcz97_3
      try clear hcz97_4
      try clear hcz97_5
      try clear hfz103_0
      try clear hfz103_1
      try clear hfz103_2
      try clear hfz103_3
      try clear hfz103_4
      try clear hfz103_5
      try clear hfz108_0
      try clear hfz108_1
      try clear hfz108_2
      try clear hfz108_3
      try clear hfz108_4
      try clear hfz108_5
      try clear hfz116_0
      try clear hfz116_1
      try clear hfz116_2
      try clear hfz116_3
      try clear hfz116_4
      try clear hfz116_5
      try clear hfz123_0
      try clear hfz123_1
      try clear hfz123_2
      try clear hfz123_3
      try clear hfz123_4
      try clear hfz123_5
      try clear hfz15_0
      try clear hfz15_1
      try clear hfz15_2
      try clear hfz15_3
      try clear hfz15_4
      try clear hfz15_5
      try clear hfz16_0
      try clear hfz16_1
      try clear hfz16_2
      try clear hfz16_3
      try clear hfz16_4
      try clear hfz16_5
      try clear hfz21_0
      try clear hfz21_1
      try clear hfz21_2
      try clear hfz21_3
      try clear hfz21_4
      try clear hfz21_5
      try clear hfz22_0
      try clear hfz22_1
      try clear hfz22_2
      try clear hfz22_3
      try clear hfz22_4
      try clear hfz22_5
      try clear hfz23_0
      try clear hfz23_1
      try clear hfz23_2
      try clear hfz23_3
      try clear hfz23_4
      try clear hfz23_5
      try clear hfz29_0
      try clear hfz29_1
      try clear hfz29_2
      try clear hfz29_3
      try clear hfz29_4
      try clear hfz29_5
      try clear hfz38_0
      try clear hfz38_1
      try clear hfz38_2
      try clear hfz38_3
      try clear hfz38_4
      try clear hfz38_5
      try clear hfz43_0
      try clear hfz43_1
      try clear hfz52_0
      try clear hfz52_1
      try clear hfz52_2
      try clear hfz52_3
      try clear hfz52_4
      try clear hfz52_5
      try clear hfz53_0
      try clear hfz53_1
      try clear hfz53_2
      try clear hfz53_3
      try clear hfz53_4
      try clear hfz53_5
      try clear hfz54_0
      try clear hfz54_1
      try clear hfz64_0
      try clear hfz64_1
      try clear hfz64_2
      try clear hfz64_3
      try clear hfz64_4
      try clear hfz64_5
      try clear hfz74_0
      try clear hfz74_1
      try clear hfz74_2
      try clear hfz74_3
      try clear hfz74_4
      try clear hfz74_5
      try clear hfz81_0
      try clear hfz81_1
      try clear hfz81_2
      try clear hfz81_3
      try clear hfz81_4
      try clear hfz81_5
      try clear hfz90_0
      try clear hfz90_1
      try clear hfz90_2
      try clear hfz90_3
      try clear hfz90_4
      try clear hfz90_5
      try clear hfz97_0
      try clear hfz97_1
      try clear hfz97_2
      try clear hfz97_3
      try clear hfz97_4
      try clear hfz97_5
      obtain ⟨kq, x72_9, rfl, HA, HJ9, BK464, BK465, BK473, BK481, BK490, BK491, BK499, BK507, HB⟩ := hcut
      cases kq with
      | zero => exact absurd HA.out (by simp [laws_FnVectorSums.j0])
      | succ kj9 =>
        have H := HA.out
        clear HA
        simp only [laws_FnVectorSums.j0] at H
        by_cases c124 : x72_9 = true
        · subst c124
          have H1 : (some false) = some true := by rw [if_pos rfl] at H <;> exact H
          exact absurd H1 (by decide)
        · replace c124 := Bool.eq_false_iff.mpr c124
          subst c124
          have H1 : (if t498 = 0 then ((impl_ScaleVector.f kj9 t482 t483 t484 t485 t486 t487 1000000 1000000).bind fun bt508 => (if bt508.2.2.2.2.2.2 = 0 then (laws_FnVectorSums.j1 kj9 t472 ((!(bt508.1 == t482) || (!(bt508.2.1 == t483))) || ((!(bt508.2.2.1 == t484) || (!(bt508.2.2.2.1 == t485))) || ((!(bt508.2.2.2.2.1 == t486) || (!(bt508.2.2.2.2.2.1 == t487)))))) t452 t453 t454 t455 t456 t457 t458 t459 t460 t461 t462 t463 t466 t467 t468 t469 t470 t471) else (laws_FnVectorSums.j1 kj9 t472 true t452 t453 t454 t455 t456 t457 t458 t459 t460 t461 t462 t463 t466 t467 t468 t469 t470 t471))) else (if t472 = 0 then ((impl_AddVectors.f kj9 t458 t459 t460 t461 t462 t463 t452 t453 t454 t455 t456 t457).bind fun bt524 => (if bt524.2.2.2.2.2.2 = 0 then (some ((bt524.1 == t466 && (bt524.2.1 == t467)) && ((bt524.2.2.1 == t468 && (bt524.2.2.2.1 == t469)) && ((bt524.2.2.2.2.1 == t470 && (bt524.2.2.2.2.2.1 == t471)))))) else (some false))) else (some true))) = some true := by rw [if_neg (show ¬ (false = true) by decide)] at H <;> exact H
          clear H
          have H := H1
          clear H1
          by_cases c125 : t498 = 0
          · rw [if_pos c125] at H
            have c125b0 : (t498 == 0) = true := beq_iff_eq.mpr c125
            have c125b1 : (t498 != 0) = false := bne_eq_false_iff_eq.mpr c125
            clear c125
            replace H := Option.bind_eq_some_iff.mp H
            obtain ⟨⟨t508, t509, t510, t511, t512, t513, t514⟩, A1260, H⟩ := H
            replace H : (if t514 = 0 then (laws_FnVectorSums.j1 kj9 t472 ((!(t508 == t482) || (!(t509 == t483))) || ((!(t510 == t484) || (!(t511 == t485))) || ((!(t512 == t486) || (!(t513 == t487)))))) t452 t453 t454 t455 t456 t457 t458 t459 t460 t461 t462 t463 t466 t467 t468 t469 t470 t471) else (laws_FnVectorSums.j1 kj9 t472 true t452 t453 t454 t455 t456 t457 t458 t459 t460 t461 t462 t463 t466 t467 t468 t469 t470 t471)) = some true := H
            have A126 := Aside0.mk A1260
            clear A1260
            have HC127 := Aside0.mk H
            clear H
            have hnb128 := NB490_464.out
            have hnc128 := NB464_490.out
            have hnb129 := NB490_465.out
            have hnc129 := NB465_490.out
            have hnb130 := NB490_473.out
            have hnc130 := NB473_490.out
            have hnb131 := NB490_481.out
            have hnc131 := NB481_490.out
            have hnb132 := NB490_491.out
            have hnc132 := NB491_490.out
            have hnb133 := NB490_499.out
            have hnc133 := NB499_490.out
            have hnb134 := NB490_507.out
            have hnc134 := NB507_490.out
            have hcz135_0 : wc.cell? ⟨gb490, 0, none⟩ = some (.int .i64 t482) := (blk_cell BK490.out 0).trans rfl
            have hcz135_1 : wc.cell? ⟨gb490, 1, none⟩ = some (.int .i64 t483) := (blk_cell BK490.out 1).trans rfl
            have hcz135_2 : wc.cell? ⟨gb490, 2, none⟩ = some (.int .i64 t484) := (blk_cell BK490.out 2).trans rfl
            have hcz135_3 : wc.cell? ⟨gb490, 3, none⟩ = some (.int .i64 t485) := (blk_cell BK490.out 3).trans rfl
            have hcz135_4 : wc.cell? ⟨gb490, 4, none⟩ = some (.int .i64 t486) := (blk_cell BK490.out 4).trans rfl
            have hcz135_5 : wc.cell? ⟨gb490, 5, none⟩ = some (.int .i64 t487) := (blk_cell BK490.out 5).trans rfl
            have hfz135_0 := blk_frozen BK490.out 0
            have hfz135_1 := blk_frozen BK490.out 1
            have hfz135_2 := blk_frozen BK490.out 2
            have hfz135_3 := blk_frozen BK490.out 3
            have hfz135_4 := blk_frozen BK490.out 4
            have hfz135_5 := blk_frozen BK490.out 5
            go_upto_region 13 with (first | ((with_reducible refine gate_callee (f := 55) rfl ?_); refine goesL_ (some 78) rfl rfl Try.func55 (by kernel_rfl) rfl #[.agg #[.int .i64 t482, .int .i64 t483, .int .i64 t484, .int .i64 t485, .int .i64 t486, .int .i64 t487], .agg #[.int .i64 1000000, .int .i64 1000000]] rfl (by (try simp only [List.map_toArray, List.map_cons, List.map_nil]); first | done | rfl | (simp only [List.length_drop, List.length_take]; rfl)) ?_; (with_reducible refine (impl_ScaleVector.calls kj9 t482 t483 t484 t485 t486 t487 1000000 1000000 t508 t509 t510 t511 t512 t513 t514 _ A126.out).mono ?_); rintro e w136 ⟨rfl, hb⟩; refine ⟨_, rfl, ?_⟩; have n0_ := Aside0.mk (blk_below (g := gb464) (o := .cells #[.int .i64 t452, .int .i64 t453, .int .i64 t454, .int .i64 t455, .int .i64 t456, .int .i64 t457] 44 (0, 0)) (by (with_reducible repeat (first | refine blk_drewN ?_ _ | refine blk_drew ?_ | refine blk_alloc ?_ _)); exact BK464.out) hb); have n1_ := Aside0.mk (blk_below (g := gb465) (o := .cells #[.int .i64 t458, .int .i64 t459, .int .i64 t460, .int .i64 t461, .int .i64 t462, .int .i64 t463] 44 (0, 0)) (by (with_reducible repeat (first | refine blk_drewN ?_ _ | refine blk_drew ?_ | refine blk_alloc ?_ _)); exact BK465.out) hb); have n2_ := Aside0.mk (blk_below (g := gb473) (o := .cells #[.int .i64 t466, .int .i64 t467, .int .i64 t468, .int .i64 t469, .int .i64 t470, .int .i64 t471] 44 (0, 0)) (by (with_reducible repeat (first | refine blk_drewN ?_ _ | refine blk_drew ?_ | refine blk_alloc ?_ _)); exact BK473.out) hb); have n3_ := Aside0.mk (blk_below (g := gb481) (o := .cells #[.int .i64 t474, .int .i64 t475, .int .i64 t476, .int .i64 t477, .int .i64 t478, .int .i64 t479] 44 (0, 0)) (by (with_reducible repeat (first | refine blk_drewN ?_ _ | refine blk_drew ?_ | refine blk_alloc ?_ _)); exact BK481.out) hb); have n4_ := Aside0.mk (blk_below (g := gb490) (o := .cells #[.int .i64 t482, .int .i64 t483, .int .i64 t484, .int .i64 t485, .int .i64 t486, .int .i64 t487] 44 (0, 0)) (by (with_reducible repeat (first | refine blk_drewN ?_ _ | refine blk_drew ?_ | refine blk_alloc ?_ _)); exact BK490.out) hb); have n5_ := Aside0.mk (blk_below (g := gb491) (o := .cells #[.int .i64 t488, .int .i64 t489] 33 (0, 0)) (by (with_reducible repeat (first | refine blk_drewN ?_ _ | refine blk_drew ?_ | refine blk_alloc ?_ _)); exact BK491.out) hb); have n6_ := Aside0.mk (blk_below (g := gb499) (o := .cells #[.int .i64 t492, .int .i64 t493, .int .i64 t494, .int .i64 t495, .int .i64 t496, .int .i64 t497] 44 (0, 0)) (by (with_reducible repeat (first | refine blk_drewN ?_ _ | refine blk_drew ?_ | refine blk_alloc ?_ _)); exact BK499.out) hb); have n7_ := Aside0.mk (blk_below (g := gb507) (o := .cells #[.int .i64 t500, .int .i64 t501, .int .i64 t502, .int .i64 t503, .int .i64 t504, .int .i64 t505] 44 (0, 0)) (by (with_reducible repeat (first | refine blk_drewN ?_ _ | refine blk_drew ?_ | refine blk_alloc ?_ _)); exact BK507.out) hb); have n8_ := Aside0.mk (below_step (by repeat (first | (with_reducible first | exact HB.out | apply below_alloc | apply pw_below_drewN | apply below_drew1 | refine below_set ?_ GE464.out | refine below_set ?_ GE465.out | refine below_set ?_ GE473.out | refine below_set ?_ GE481.out | refine below_set ?_ GE490.out | refine below_set ?_ GE491.out | refine below_set ?_ GE499.out | refine below_set ?_ GE507.out) | exact HB.out)) hb); clear BK464; clear BK465; clear BK473; clear BK481; clear BK490; clear BK491; clear BK499; clear BK507; clear HB; have BK464 := n0_; have BK465 := n1_; have BK473 := n2_; have BK481 := n3_; have BK490 := n4_; have BK491 := n5_; have BK499 := n6_; have BK507 := n7_; have HB := n8_; clear n0_ n1_ n2_ n3_ n4_ n5_ n6_ n7_ n8_; (try clear hb); (try clear hb2); (try clear hk); (try clear hi)) | ((with_reducible refine gate_dst (N := 15) rfl ?_); refine box_event ?hg (N := 15) ?hd (cs := #[.int .i64 0, .int .i64 0, .int .i64 0, .int .i64 0, .int .i64 0, .int .i64 0]) (t := 44) ?hr ?_; (case hd => rfl); (case hg => rfl); (case hr => first | (go_simp; done) | (go_simp; rfl)); intro gb515 hg w137 hbox hb; have n0_ := Aside0.mk (blk_below (g := gb464) (o := .cells #[.int .i64 t452, .int .i64 t453, .int .i64 t454, .int .i64 t455, .int .i64 t456, .int .i64 t457] 44 (0, 0)) (by (with_reducible repeat (first | refine blk_drewN ?_ _ | refine blk_drew ?_ | refine blk_alloc ?_ _)); exact BK464.out) hb); have n1_ := Aside0.mk (blk_below (g := gb465) (o := .cells #[.int .i64 t458, .int .i64 t459, .int .i64 t460, .int .i64 t461, .int .i64 t462, .int .i64 t463] 44 (0, 0)) (by (with_reducible repeat (first | refine blk_drewN ?_ _ | refine blk_drew ?_ | refine blk_alloc ?_ _)); exact BK465.out) hb); have n2_ := Aside0.mk (blk_below (g := gb473) (o := .cells #[.int .i64 t466, .int .i64 t467, .int .i64 t468, .int .i64 t469, .int .i64 t470, .int .i64 t471] 44 (0, 0)) (by (with_reducible repeat (first | refine blk_drewN ?_ _ | refine blk_drew ?_ | refine blk_alloc ?_ _)); exact BK473.out) hb); have n3_ := Aside0.mk (blk_below (g := gb481) (o := .cells #[.int .i64 t474, .int .i64 t475, .int .i64 t476, .int .i64 t477, .int .i64 t478, .int .i64 t479] 44 (0, 0)) (by (with_reducible repeat (first | refine blk_drewN ?_ _ | refine blk_drew ?_ | refine blk_alloc ?_ _)); exact BK481.out) hb); have n4_ := Aside0.mk (blk_below (g := gb490) (o := .cells #[.int .i64 t482, .int .i64 t483, .int .i64 t484, .int .i64 t485, .int .i64 t486, .int .i64 t487] 44 (0, 0)) (by (with_reducible repeat (first | refine blk_drewN ?_ _ | refine blk_drew ?_ | refine blk_alloc ?_ _)); exact BK490.out) hb); have n5_ := Aside0.mk (blk_below (g := gb491) (o := .cells #[.int .i64 t488, .int .i64 t489] 33 (0, 0)) (by (with_reducible repeat (first | refine blk_drewN ?_ _ | refine blk_drew ?_ | refine blk_alloc ?_ _)); exact BK491.out) hb); have n6_ := Aside0.mk (blk_below (g := gb499) (o := .cells #[.int .i64 t492, .int .i64 t493, .int .i64 t494, .int .i64 t495, .int .i64 t496, .int .i64 t497] 44 (0, 0)) (by (with_reducible repeat (first | refine blk_drewN ?_ _ | refine blk_drew ?_ | refine blk_alloc ?_ _)); exact BK499.out) hb); have n7_ := Aside0.mk (blk_below (g := gb507) (o := .cells #[.int .i64 t500, .int .i64 t501, .int .i64 t502, .int .i64 t503, .int .i64 t504, .int .i64 t505] 44 (0, 0)) (by (with_reducible repeat (first | refine blk_drewN ?_ _ | refine blk_drew ?_ | refine blk_alloc ?_ _)); exact BK507.out) hb); have n8_ := Aside0.mk (below_step (by repeat (first | (with_reducible first | exact HB.out | apply below_alloc | apply pw_below_drewN | apply below_drew1 | refine below_set ?_ GE464.out | refine below_set ?_ GE465.out | refine below_set ?_ GE473.out | refine below_set ?_ GE481.out | refine below_set ?_ GE490.out | refine below_set ?_ GE491.out | refine below_set ?_ GE499.out | refine below_set ?_ GE507.out) | exact HB.out)) hb); have n9_ := Aside0.mk (hbox); have n10_ := Aside0.mk ((by rw [hg]; exact (below_size (by repeat (first | (with_reducible first | exact HB.out | apply below_alloc | apply pw_below_drewN | apply below_drew1 | refine below_set ?_ GE464.out | refine below_set ?_ GE465.out | refine below_set ?_ GE473.out | refine below_set ?_ GE481.out | refine below_set ?_ GE490.out | refine below_set ?_ GE491.out | refine below_set ?_ GE499.out | refine below_set ?_ GE507.out) | exact HB.out))) : w.heap.size ≤ gb515)); have n11_ := Aside0.mk ((by rw [hg]; exact (below_size (by repeat (first | (with_reducible first | exact HB.out | apply below_alloc | apply pw_below_drewN | apply below_drew1 | refine below_set ?_ GE464.out | refine below_set ?_ GE465.out | refine below_set ?_ GE473.out | refine below_set ?_ GE481.out | refine below_set ?_ GE490.out | refine below_set ?_ GE491.out | refine below_set ?_ GE499.out | refine below_set ?_ GE507.out) | exact HB.out))) : w.heap.size ≤ gb515)); have n12_ := Aside0.mk ((by rw [hg]; exact Nat.ne_of_lt (blk_lt (g := gb464) (o := .cells #[.int .i64 t452, .int .i64 t453, .int .i64 t454, .int .i64 t455, .int .i64 t456, .int .i64 t457] 44 (0, 0)) (by (with_reducible repeat (first | refine blk_drewN ?_ _ | refine blk_drew ?_ | refine blk_alloc ?_ _)); exact BK464.out)) : gb464 ≠ gb515)); have n13_ := Aside0.mk ((by rw [hg]; exact Nat.ne_of_gt (blk_lt (g := gb464) (o := .cells #[.int .i64 t452, .int .i64 t453, .int .i64 t454, .int .i64 t455, .int .i64 t456, .int .i64 t457] 44 (0, 0)) (by (with_reducible repeat (first | refine blk_drewN ?_ _ | refine blk_drew ?_ | refine blk_alloc ?_ _)); exact BK464.out)) : gb515 ≠ gb464)); have n14_ := Aside0.mk ((by rw [hg]; exact Nat.ne_of_lt (blk_lt (g := gb465) (o := .cells #[.int .i64 t458, .int .i64 t459, .int .i64 t460, .int .i64 t461, .int .i64 t462, .int .i64 t463] 44 (0, 0)) (by (with_reducible repeat (first | refine blk_drewN ?_ _ | refine blk_drew ?_ | refine blk_alloc ?_ _)); exact BK465.out)) : gb465 ≠ gb515)); have n15_ := Aside0.mk ((by rw [hg]; exact Nat.ne_of_gt (blk_lt (g := gb465) (o := .cells #[.int .i64 t458, .int .i64 t459, .int .i64 t460, .int .i64 t461, .int .i64 t462, .int .i64 t463] 44 (0, 0)) (by (with_reducible repeat (first | refine blk_drewN ?_ _ | refine blk_drew ?_ | refine blk_alloc ?_ _)); exact BK465.out)) : gb515 ≠ gb465)); have n16_ := Aside0.mk ((by rw [hg]; exact Nat.ne_of_lt (blk_lt (g := gb473) (o := .cells #[.int .i64 t466, .int .i64 t467, .int .i64 t468, .int .i64 t469, .int .i64 t470, .int .i64 t471] 44 (0, 0)) (by (with_reducible repeat (first | refine blk_drewN ?_ _ | refine blk_drew ?_ | refine blk_alloc ?_ _)); exact BK473.out)) : gb473 ≠ gb515)); have n17_ := Aside0.mk ((by rw [hg]; exact Nat.ne_of_gt (blk_lt (g := gb473) (o := .cells #[.int .i64 t466, .int .i64 t467, .int .i64 t468, .int .i64 t469, .int .i64 t470, .int .i64 t471] 44 (0, 0)) (by (with_reducible repeat (first | refine blk_drewN ?_ _ | refine blk_drew ?_ | refine blk_alloc ?_ _)); exact BK473.out)) : gb515 ≠ gb473)); have n18_ := Aside0.mk ((by rw [hg]; exact Nat.ne_of_lt (blk_lt (g := gb481) (o := .cells #[.int .i64 t474, .int .i64 t475, .int .i64 t476, .int .i64 t477, .int .i64 t478, .int .i64 t479] 44 (0, 0)) (by (with_reducible repeat (first | refine blk_drewN ?_ _ | refine blk_drew ?_ | refine blk_alloc ?_ _)); exact BK481.out)) : gb481 ≠ gb515)); have n19_ := Aside0.mk ((by rw [hg]; exact Nat.ne_of_gt (blk_lt (g := gb481) (o := .cells #[.int .i64 t474, .int .i64 t475, .int .i64 t476, .int .i64 t477, .int .i64 t478, .int .i64 t479] 44 (0, 0)) (by (with_reducible repeat (first | refine blk_drewN ?_ _ | refine blk_drew ?_ | refine blk_alloc ?_ _)); exact BK481.out)) : gb515 ≠ gb481)); have n20_ := Aside0.mk ((by rw [hg]; exact Nat.ne_of_lt (blk_lt (g := gb490) (o := .cells #[.int .i64 t482, .int .i64 t483, .int .i64 t484, .int .i64 t485, .int .i64 t486, .int .i64 t487] 44 (0, 0)) (by (with_reducible repeat (first | refine blk_drewN ?_ _ | refine blk_drew ?_ | refine blk_alloc ?_ _)); exact BK490.out)) : gb490 ≠ gb515)); have n21_ := Aside0.mk ((by rw [hg]; exact Nat.ne_of_gt (blk_lt (g := gb490) (o := .cells #[.int .i64 t482, .int .i64 t483, .int .i64 t484, .int .i64 t485, .int .i64 t486, .int .i64 t487] 44 (0, 0)) (by (with_reducible repeat (first | refine blk_drewN ?_ _ | refine blk_drew ?_ | refine blk_alloc ?_ _)); exact BK490.out)) : gb515 ≠ gb490)); have n22_ := Aside0.mk ((by rw [hg]; exact Nat.ne_of_lt (blk_lt (g := gb491) (o := .cells #[.int .i64 t488, .int .i64 t489] 33 (0, 0)) (by (with_reducible repeat (first | refine blk_drewN ?_ _ | refine blk_drew ?_ | refine blk_alloc ?_ _)); exact BK491.out)) : gb491 ≠ gb515)); have n23_ := Aside0.mk ((by rw [hg]; exact Nat.ne_of_gt (blk_lt (g := gb491) (o := .cells #[.int .i64 t488, .int .i64 t489] 33 (0, 0)) (by (with_reducible repeat (first | refine blk_drewN ?_ _ | refine blk_drew ?_ | refine blk_alloc ?_ _)); exact BK491.out)) : gb515 ≠ gb491)); have n24_ := Aside0.mk ((by rw [hg]; exact Nat.ne_of_lt (blk_lt (g := gb499) (o := .cells #[.int .i64 t492, .int .i64 t493, .int .i64 t494, .int .i64 t495, .int .i64 t496, .int .i64 t497] 44 (0, 0)) (by (with_reducible repeat (first | refine blk_drewN ?_ _ | refine blk_drew ?_ | refine blk_alloc ?_ _)); exact BK499.out)) : gb499 ≠ gb515)); have n25_ := Aside0.mk ((by rw [hg]; exact Nat.ne_of_gt (blk_lt (g := gb499) (o := .cells #[.int .i64 t492, .int .i64 t493, .int .i64 t494, .int .i64 t495, .int .i64 t496, .int .i64 t497] 44 (0, 0)) (by (with_reducible repeat (first | refine blk_drewN ?_ _ | refine blk_drew ?_ | refine blk_alloc ?_ _)); exact BK499.out)) : gb515 ≠ gb499)); have n26_ := Aside0.mk ((by rw [hg]; exact Nat.ne_of_lt (blk_lt (g := gb507) (o := .cells #[.int .i64 t500, .int .i64 t501, .int .i64 t502, .int .i64 t503, .int .i64 t504, .int .i64 t505] 44 (0, 0)) (by (with_reducible repeat (first | refine blk_drewN ?_ _ | refine blk_drew ?_ | refine blk_alloc ?_ _)); exact BK507.out)) : gb507 ≠ gb515)); have n27_ := Aside0.mk ((by rw [hg]; exact Nat.ne_of_gt (blk_lt (g := gb507) (o := .cells #[.int .i64 t500, .int .i64 t501, .int .i64 t502, .int .i64 t503, .int .i64 t504, .int .i64 t505] 44 (0, 0)) (by (with_reducible repeat (first | refine blk_drewN ?_ _ | refine blk_drew ?_ | refine blk_alloc ?_ _)); exact BK507.out)) : gb515 ≠ gb507)); clear BK464; clear BK465; clear BK473; clear BK481; clear BK490; clear BK491; clear BK499; clear BK507; clear HB; have BK464 := n0_; have BK465 := n1_; have BK473 := n2_; have BK481 := n3_; have BK490 := n4_; have BK491 := n5_; have BK499 := n6_; have BK507 := n7_; have HB := n8_; have BK515 := n9_; have GW515 := n10_; have GE515 := n11_; have NB464_515 := n12_; have NB515_464 := n13_; have NB465_515 := n14_; have NB515_465 := n15_; have NB473_515 := n16_; have NB515_473 := n17_; have NB481_515 := n18_; have NB515_481 := n19_; have NB490_515 := n20_; have NB515_490 := n21_; have NB491_515 := n22_; have NB515_491 := n23_; have NB499_515 := n24_; have NB515_499 := n25_; have NB507_515 := n26_; have NB515_507 := n27_; clear n0_ n1_ n2_ n3_ n4_ n5_ n6_ n7_ n8_ n9_ n10_ n11_ n12_ n13_ n14_ n15_ n16_ n17_ n18_ n19_ n20_ n21_ n22_ n23_ n24_ n25_ n26_ n27_; clear hb hbox hg; have hnb138 := NB515_464.out; have hnc138 := NB464_515.out; have hnb139 := NB515_465.out; have hnc139 := NB465_515.out; have hnb140 := NB515_473.out; have hnc140 := NB473_515.out; have hnb141 := NB515_481.out; have hnc141 := NB481_515.out; have hnb142 := NB515_490.out; have hnc142 := NB490_515.out; have hnb143 := NB515_491.out; have hnc143 := NB491_515.out; have hnb144 := NB515_499.out; have hnc144 := NB499_515.out; have hnb145 := NB515_507.out; have hnc145 := NB507_515.out; have hcz146_0 : w137.cell? ⟨gb515, 0, none⟩ = some (.int .i64 0) := (blk_cell BK515.out 0).trans rfl; have hcz146_1 : w137.cell? ⟨gb515, 1, none⟩ = some (.int .i64 0) := (blk_cell BK515.out 1).trans rfl; have hcz146_2 : w137.cell? ⟨gb515, 2, none⟩ = some (.int .i64 0) := (blk_cell BK515.out 2).trans rfl; have hcz146_3 : w137.cell? ⟨gb515, 3, none⟩ = some (.int .i64 0) := (blk_cell BK515.out 3).trans rfl; have hcz146_4 : w137.cell? ⟨gb515, 4, none⟩ = some (.int .i64 0) := (blk_cell BK515.out 4).trans rfl; have hcz146_5 : w137.cell? ⟨gb515, 5, none⟩ = some (.int .i64 0) := (blk_cell BK515.out 5).trans rfl; have hfz146_0 := blk_frozen BK515.out 0; have hfz146_1 := blk_frozen BK515.out 1; have hfz146_2 := blk_frozen BK515.out 2; have hfz146_3 := blk_frozen BK515.out 3; have hfz146_4 := blk_frozen BK515.out 4; have hfz146_5 := blk_frozen BK515.out 5))
            (try simp only [Act.put, List.setIfInBounds_toArray, List.set_cons_zero, List.set_cons_succ])
            go_cut [87] (fun v87 wc => ∃ (kq : Nat) (x87_126 : Bool), v87 = .bool x87_126 ∧ Aside0 (laws_FnVectorSums.j1 kq t472 x87_126 t452 t453 t454 t455 t456 t457 t458 t459 t460 t461 t462 t463 t466 t467 t468 t469 t470 t471 = some true) ∧ Aside0 (kq ≤ kj9) ∧ Aside0 (wc.heap[gb464]? = some (.cells #[.int .i64 t452, .int .i64 t453, .int .i64 t454, .int .i64 t455, .int .i64 t456, .int .i64 t457] 44 (0, 0))) ∧ Aside0 (wc.heap[gb465]? = some (.cells #[.int .i64 t458, .int .i64 t459, .int .i64 t460, .int .i64 t461, .int .i64 t462, .int .i64 t463] 44 (0, 0))) ∧ Aside0 (wc.heap[gb473]? = some (.cells #[.int .i64 t466, .int .i64 t467, .int .i64 t468, .int .i64 t469, .int .i64 t470, .int .i64 t471] 44 (0, 0))) ∧ Aside0 (wc.heap[gb481]? = some (.cells #[.int .i64 t474, .int .i64 t475, .int .i64 t476, .int .i64 t477, .int .i64 t478, .int .i64 t479] 44 (0, 0))) ∧ Aside0 (wc.heap[gb490]? = some (.cells #[.int .i64 t482, .int .i64 t483, .int .i64 t484, .int .i64 t485, .int .i64 t486, .int .i64 t487] 44 (0, 0))) ∧ Aside0 (wc.heap[gb491]? = some (.cells #[.int .i64 t488, .int .i64 t489] 33 (0, 0))) ∧ Aside0 (wc.heap[gb499]? = some (.cells #[.int .i64 t492, .int .i64 t493, .int .i64 t494, .int .i64 t495, .int .i64 t496, .int .i64 t497] 44 (0, 0))) ∧ Aside0 (wc.heap[gb507]? = some (.cells #[.int .i64 t500, .int .i64 t501, .int .i64 t502, .int .i64 t503, .int .i64 t504, .int .i64 t505] 44 (0, 0))) ∧ Aside0 (wc.heap[gb515]? = some (.cells #[.int .i64 t508, .int .i64 t509, .int .i64 t510, .int .i64 t511, .int .i64 t512, .int .i64 t513] 44 (0, 0))) ∧ Aside0 (Below w.heap.size w wc))
            case first =>
              have H := HC127.out
              clear HC127
              by_cases c147 : t514 = 0
              · rw [if_pos c147] at H
                have c147b0 : (t514 == 0) = true := beq_iff_eq.mpr c147
                have c147b1 : (t514 != 0) = false := bne_eq_false_iff_eq.mpr c147
                clear c147
                (first | rw [c147b0] | (simp only [i64_w, i32_w]; rw [c147b0]) | skip)
                have H' := Aside0.mk H
                clear H
                have hnb148 := NB515_464.out
                have hnc148 := NB464_515.out
                have hnb149 := NB515_465.out
                have hnc149 := NB465_515.out
                have hnb150 := NB515_473.out
                have hnc150 := NB473_515.out
                have hnb151 := NB515_481.out
                have hnc151 := NB481_515.out
                have hnb152 := NB515_490.out
                have hnc152 := NB490_515.out
                have hnb153 := NB515_491.out
                have hnc153 := NB491_515.out
                have hnb154 := NB515_499.out
                have hnc154 := NB499_515.out
                have hnb155 := NB515_507.out
                have hnc155 := NB507_515.out
                have hcz156_0 : w137.cell? ⟨gb515, 0, none⟩ = some (.int .i64 0) := (blk_cell BK515.out 0).trans rfl
                have hcz156_1 : w137.cell? ⟨gb515, 1, none⟩ = some (.int .i64 0) := (blk_cell BK515.out 1).trans rfl
                have hcz156_2 : w137.cell? ⟨gb515, 2, none⟩ = some (.int .i64 0) := (blk_cell BK515.out 2).trans rfl
                have hcz156_3 : w137.cell? ⟨gb515, 3, none⟩ = some (.int .i64 0) := (blk_cell BK515.out 3).trans rfl
                have hcz156_4 : w137.cell? ⟨gb515, 4, none⟩ = some (.int .i64 0) := (blk_cell BK515.out 4).trans rfl
                have hcz156_5 : w137.cell? ⟨gb515, 5, none⟩ = some (.int .i64 0) := (blk_cell BK515.out 5).trans rfl
                have hfz156_0 := blk_frozen BK515.out 0
                have hfz156_1 := blk_frozen BK515.out 1
                have hfz156_2 := blk_frozen BK515.out 2
                have hfz156_3 := blk_frozen BK515.out 3
                have hfz156_4 := blk_frozen BK515.out 4
                have hfz156_5 := blk_frozen BK515.out 5
                have hnb157 := NB490_464.out
                have hnc157 := NB464_490.out
                have hnb158 := NB490_465.out
                have hnc158 := NB465_490.out
                have hnb159 := NB490_473.out
                have hnc159 := NB473_490.out
                have hnb160 := NB490_481.out
                have hnc160 := NB481_490.out
                have hnb161 := NB490_491.out
                have hnc161 := NB491_490.out
                have hnb162 := NB490_499.out
                have hnc162 := NB499_490.out
                have hnb163 := NB490_507.out
                have hnc163 := NB507_490.out
                have hcz164_0 : w137.cell? ⟨gb490, 0, none⟩ = some (.int .i64 t482) := (blk_cell BK490.out 0).trans rfl
                have hcz164_1 : w137.cell? ⟨gb490, 1, none⟩ = some (.int .i64 t483) := (blk_cell BK490.out 1).trans rfl
                have hcz164_2 : w137.cell? ⟨gb490, 2, none⟩ = some (.int .i64 t484) := (blk_cell BK490.out 2).trans rfl
                have hcz164_3 : w137.cell? ⟨gb490, 3, none⟩ = some (.int .i64 t485) := (blk_cell BK490.out 3).trans rfl
                have hcz164_4 : w137.cell? ⟨gb490, 4, none⟩ = some (.int .i64 t486) := (blk_cell BK490.out 4).trans rfl
                have hcz164_5 : w137.cell? ⟨gb490, 5, none⟩ = some (.int .i64 t487) := (blk_cell BK490.out 5).trans rfl
                have hfz164_0 := blk_frozen BK490.out 0
                have hfz164_1 := blk_frozen BK490.out 1
                have hfz164_2 := blk_frozen BK490.out 2
                have hfz164_3 := blk_frozen BK490.out 3
                have hfz164_4 := blk_frozen BK490.out 4
                have hfz164_5 := blk_frozen BK490.out 5
                go_wp2
                go_meet
                case rel => exact ⟨_, (((!(t508 == t482) || (!(t509 == t483))) || ((!(t510 == t484) || (!(t511 == t485))) || ((!(t512 == t486) || (!(t513 == t487))))))), (by first | rfl | (simp; done) | (simp [*]; done)), H', ⟨by have := HJ9.out; first | omega | exact Nat.le_refl _⟩, ⟨by (with_reducible repeat (first | refine blk_drewN ?_ _ | refine blk_drew ?_ | refine blk_alloc ?_ _)); refine blk_far ?_ NB464_515.out _; (with_reducible repeat (first | refine blk_drewN ?_ _ | refine blk_drew ?_ | refine blk_alloc ?_ _)); refine blk_far ?_ NB464_515.out _; (with_reducible repeat (first | refine blk_drewN ?_ _ | refine blk_drew ?_ | refine blk_alloc ?_ _)); refine blk_far ?_ NB464_515.out _; (with_reducible repeat (first | refine blk_drewN ?_ _ | refine blk_drew ?_ | refine blk_alloc ?_ _)); refine blk_far ?_ NB464_515.out _; (with_reducible repeat (first | refine blk_drewN ?_ _ | refine blk_drew ?_ | refine blk_alloc ?_ _)); refine blk_far ?_ NB464_515.out _; (with_reducible repeat (first | refine blk_drewN ?_ _ | refine blk_drew ?_ | refine blk_alloc ?_ _)); refine blk_far ?_ NB464_515.out _; (with_reducible repeat (first | refine blk_drewN ?_ _ | refine blk_drew ?_ | refine blk_alloc ?_ _)); exact BK464.out⟩, ⟨by (with_reducible repeat (first | refine blk_drewN ?_ _ | refine blk_drew ?_ | refine blk_alloc ?_ _)); refine blk_far ?_ NB465_515.out _; (with_reducible repeat (first | refine blk_drewN ?_ _ | refine blk_drew ?_ | refine blk_alloc ?_ _)); refine blk_far ?_ NB465_515.out _; (with_reducible repeat (first | refine blk_drewN ?_ _ | refine blk_drew ?_ | refine blk_alloc ?_ _)); refine blk_far ?_ NB465_515.out _; (with_reducible repeat (first | refine blk_drewN ?_ _ | refine blk_drew ?_ | refine blk_alloc ?_ _)); refine blk_far ?_ NB465_515.out _; (with_reducible repeat (first | refine blk_drewN ?_ _ | refine blk_drew ?_ | refine blk_alloc ?_ _)); refine blk_far ?_ NB465_515.out _; (with_reducible repeat (first | refine blk_drewN ?_ _ | refine blk_drew ?_ | refine blk_alloc ?_ _)); refine blk_far ?_ NB465_515.out _; (with_reducible repeat (first | refine blk_drewN ?_ _ | refine blk_drew ?_ | refine blk_alloc ?_ _)); exact BK465.out⟩, ⟨by (with_reducible repeat (first | refine blk_drewN ?_ _ | refine blk_drew ?_ | refine blk_alloc ?_ _)); refine blk_far ?_ NB473_515.out _; (with_reducible repeat (first | refine blk_drewN ?_ _ | refine blk_drew ?_ | refine blk_alloc ?_ _)); refine blk_far ?_ NB473_515.out _; (with_reducible repeat (first | refine blk_drewN ?_ _ | refine blk_drew ?_ | refine blk_alloc ?_ _)); refine blk_far ?_ NB473_515.out _; (with_reducible repeat (first | refine blk_drewN ?_ _ | refine blk_drew ?_ | refine blk_alloc ?_ _)); refine blk_far ?_ NB473_515.out _; (with_reducible repeat (first | refine blk_drewN ?_ _ | refine blk_drew ?_ | refine blk_alloc ?_ _)); refine blk_far ?_ NB473_515.out _; (with_reducible repeat (first | refine blk_drewN ?_ _ | refine blk_drew ?_ | refine blk_alloc ?_ _)); refine blk_far ?_ NB473_515.out _; (with_reducible repeat (first | refine blk_drewN ?_ _ | refine blk_drew ?_ | refine blk_alloc ?_ _)); exact BK473.out⟩, ⟨by (with_reducible repeat (first | refine blk_drewN ?_ _ | refine blk_drew ?_ | refine blk_alloc ?_ _)); refine blk_far ?_ NB481_515.out _; (with_reducible repeat (first | refine blk_drewN ?_ _ | refine blk_drew ?_ | refine blk_alloc ?_ _)); refine blk_far ?_ NB481_515.out _; (with_reducible repeat (first | refine blk_drewN ?_ _ | refine blk_drew ?_ | refine blk_alloc ?_ _)); refine blk_far ?_ NB481_515.out _; (with_reducible repeat (first | refine blk_drewN ?_ _ | refine blk_drew ?_ | refine blk_alloc ?_ _)); refine blk_far ?_ NB481_515.out _; (with_reducible repeat (first | refine blk_drewN ?_ _ | refine blk_drew ?_ | refine blk_alloc ?_ _)); refine blk_far ?_ NB481_515.out _; (with_reducible repeat (first | refine blk_drewN ?_ _ | refine blk_drew ?_ | refine blk_alloc ?_ _)); refine blk_far ?_ NB481_515.out _; (with_reducible repeat (first | refine blk_drewN ?_ _ | refine blk_drew ?_ | refine blk_alloc ?_ _)); exact BK481.out⟩, ⟨by (with_reducible repeat (first | refine blk_drewN ?_ _ | refine blk_drew ?_ | refine blk_alloc ?_ _)); refine blk_far ?_ NB490_515.out _; (with_reducible repeat (first | refine blk_drewN ?_ _ | refine blk_drew ?_ | refine blk_alloc ?_ _)); refine blk_far ?_ NB490_515.out _; (with_reducible repeat (first | refine blk_drewN ?_ _ | refine blk_drew ?_ | refine blk_alloc ?_ _)); refine blk_far ?_ NB490_515.out _; (with_reducible repeat (first | refine blk_drewN ?_ _ | refine blk_drew ?_ | refine blk_alloc ?_ _)); refine blk_far ?_ NB490_515.out _; (with_reducible repeat (first | refine blk_drewN ?_ _ | refine blk_drew ?_ | refine blk_alloc ?_ _)); refine blk_far ?_ NB490_515.out _; (with_reducible repeat (first | refine blk_drewN ?_ _ | refine blk_drew ?_ | refine blk_alloc ?_ _)); refine blk_far ?_ NB490_515.out _; (with_reducible repeat (first | refine blk_drewN ?_ _ | refine blk_drew ?_ | refine blk_alloc ?_ _)); exact BK490.out⟩, ⟨by (with_reducible repeat (first | refine blk_drewN ?_ _ | refine blk_drew ?_ | refine blk_alloc ?_ _)); refine blk_far ?_ NB491_515.out _; (with_reducible repeat (first | refine blk_drewN ?_ _ | refine blk_drew ?_ | refine blk_alloc ?_ _)); refine blk_far ?_ NB491_515.out _; (with_reducible repeat (first | refine blk_drewN ?_ _ | refine blk_drew ?_ | refine blk_alloc ?_ _)); refine blk_far ?_ NB491_515.out _; (with_reducible repeat (first | refine blk_drewN ?_ _ | refine blk_drew ?_ | refine blk_alloc ?_ _)); refine blk_far ?_ NB491_515.out _; (with_reducible repeat (first | refine blk_drewN ?_ _ | refine blk_drew ?_ | refine blk_alloc ?_ _)); refine blk_far ?_ NB491_515.out _; (with_reducible repeat (first | refine blk_drewN ?_ _ | refine blk_drew ?_ | refine blk_alloc ?_ _)); refine blk_far ?_ NB491_515.out _; (with_reducible repeat (first | refine blk_drewN ?_ _ | refine blk_drew ?_ | refine blk_alloc ?_ _)); exact BK491.out⟩, ⟨by (with_reducible repeat (first | refine blk_drewN ?_ _ | refine blk_drew ?_ | refine blk_alloc ?_ _)); refine blk_far ?_ NB499_515.out _; (with_reducible repeat (first | refine blk_drewN ?_ _ | refine blk_drew ?_ | refine blk_alloc ?_ _)); refine blk_far ?_ NB499_515.out _; (with_reducible repeat (first | refine blk_drewN ?_ _ | refine blk_drew ?_ | refine blk_alloc ?_ _)); refine blk_far ?_ NB499_515.out _; (with_reducible repeat (first | refine blk_drewN ?_ _ | refine blk_drew ?_ | refine blk_alloc ?_ _)); refine blk_far ?_ NB499_515.out _; (with_reducible repeat (first | refine blk_drewN ?_ _ | refine blk_drew ?_ | refine blk_alloc ?_ _)); refine blk_far ?_ NB499_515.out _; (with_reducible repeat (first | refine blk_drewN ?_ _ | refine blk_drew ?_ | refine blk_alloc ?_ _)); refine blk_far ?_ NB499_515.out _; (with_reducible repeat (first | refine blk_drewN ?_ _ | refine blk_drew ?_ | refine blk_alloc ?_ _)); exact BK499.out⟩, ⟨by (with_reducible repeat (first | refine blk_drewN ?_ _ | refine blk_drew ?_ | refine blk_alloc ?_ _)); refine blk_far ?_ NB507_515.out _; (with_reducible repeat (first | refine blk_drewN ?_ _ | refine blk_drew ?_ | refine blk_alloc ?_ _)); refine blk_far ?_ NB507_515.out _; (with_reducible repeat (first | refine blk_drewN ?_ _ | refine blk_drew ?_ | refine blk_alloc ?_ _)); refine blk_far ?_ NB507_515.out _; (with_reducible repeat (first | refine blk_drewN ?_ _ | refine blk_drew ?_ | refine blk_alloc ?_ _)); refine blk_far ?_ NB507_515.out _; (with_reducible repeat (first | refine blk_drewN ?_ _ | refine blk_drew ?_ | refine blk_alloc ?_ _)); refine blk_far ?_ NB507_515.out _; (with_reducible repeat (first | refine blk_drewN ?_ _ | refine blk_drew ?_ | refine blk_alloc ?_ _)); refine blk_far ?_ NB507_515.out _; (with_reducible repeat (first | refine blk_drewN ?_ _ | refine blk_drew ?_ | refine blk_alloc ?_ _)); exact BK507.out⟩, ⟨by (with_reducible repeat (first | refine blk_drewN ?_ _ | refine blk_drew ?_ | refine blk_alloc ?_ _)); refine blk_put (cs := #[.int .i64 t508, .int .i64 t509, .int .i64 t510, .int .i64 t511, .int .i64 t512, .int .i64 0]) ?_ 5 _ rfl; (with_reducible repeat (first | refine blk_drewN ?_ _ | refine blk_drew ?_ | refine blk_alloc ?_ _)); refine blk_put (cs := #[.int .i64 t508, .int .i64 t509, .int .i64 t510, .int .i64 t511, .int .i64 0, .int .i64 0]) ?_ 4 _ rfl; (with_reducible repeat (first | refine blk_drewN ?_ _ | refine blk_drew ?_ | refine blk_alloc ?_ _)); refine blk_put (cs := #[.int .i64 t508, .int .i64 t509, .int .i64 t510, .int .i64 0, .int .i64 0, .int .i64 0]) ?_ 3 _ rfl; (with_reducible repeat (first | refine blk_drewN ?_ _ | refine blk_drew ?_ | refine blk_alloc ?_ _)); refine blk_put (cs := #[.int .i64 t508, .int .i64 t509, .int .i64 0, .int .i64 0, .int .i64 0, .int .i64 0]) ?_ 2 _ rfl; (with_reducible repeat (first | refine blk_drewN ?_ _ | refine blk_drew ?_ | refine blk_alloc ?_ _)); refine blk_put (cs := #[.int .i64 t508, .int .i64 0, .int .i64 0, .int .i64 0, .int .i64 0, .int .i64 0]) ?_ 1 _ rfl; (with_reducible repeat (first | refine blk_drewN ?_ _ | refine blk_drew ?_ | refine blk_alloc ?_ _)); refine blk_put (cs := #[.int .i64 0, .int .i64 0, .int .i64 0, .int .i64 0, .int .i64 0, .int .i64 0]) ?_ 0 _ rfl; (with_reducible repeat (first | refine blk_drewN ?_ _ | refine blk_drew ?_ | refine blk_alloc ?_ _)); exact BK515.out⟩, ⟨by repeat (first | (with_reducible first | exact HB.out | apply below_alloc | apply pw_below_drewN | apply below_drew1 | refine below_set ?_ GE464.out | refine below_set ?_ GE465.out | refine below_set ?_ GE473.out | refine below_set ?_ GE481.out | refine below_set ?_ GE490.out | refine below_set ?_ GE491.out | refine below_set ?_ GE499.out | refine below_set ?_ GE507.out | refine below_set ?_ GE515.out) | exact HB.out)⟩⟩
              · rw [if_neg c147] at H
                have c147b0 : (t514 == 0) = false := beq_eq_false_iff_ne.mpr c147
                have c147b1 : (t514 != 0) = true := bne_iff_ne.mpr c147
                (first | rw [c147b0] | (simp only [i64_w, i32_w]; rw [c147b0]) | skip)
                have H' := Aside0.mk H
                clear H
                go_wp2
                go_meet
                case rel => exact ⟨_, (true), (by first | rfl | (simp; done) | (simp [*]; done)), H', ⟨by have := HJ9.out; first | omega | exact Nat.le_refl _⟩, ⟨by (with_reducible repeat (first | refine blk_drewN ?_ _ | refine blk_drew ?_ | refine blk_alloc ?_ _)); refine blk_far ?_ NB464_515.out _; (with_reducible repeat (first | refine blk_drewN ?_ _ | refine blk_drew ?_ | refine blk_alloc ?_ _)); refine blk_far ?_ NB464_515.out _; (with_reducible repeat (first | refine blk_drewN ?_ _ | refine blk_drew ?_ | refine blk_alloc ?_ _)); refine blk_far ?_ NB464_515.out _; (with_reducible repeat (first | refine blk_drewN ?_ _ | refine blk_drew ?_ | refine blk_alloc ?_ _)); refine blk_far ?_ NB464_515.out _; (with_reducible repeat (first | refine blk_drewN ?_ _ | refine blk_drew ?_ | refine blk_alloc ?_ _)); refine blk_far ?_ NB464_515.out _; (with_reducible repeat (first | refine blk_drewN ?_ _ | refine blk_drew ?_ | refine blk_alloc ?_ _)); refine blk_far ?_ NB464_515.out _; (with_reducible repeat (first | refine blk_drewN ?_ _ | refine blk_drew ?_ | refine blk_alloc ?_ _)); exact BK464.out⟩, ⟨by (with_reducible repeat (first | refine blk_drewN ?_ _ | refine blk_drew ?_ | refine blk_alloc ?_ _)); refine blk_far ?_ NB465_515.out _; (with_reducible repeat (first | refine blk_drewN ?_ _ | refine blk_drew ?_ | refine blk_alloc ?_ _)); refine blk_far ?_ NB465_515.out _; (with_reducible repeat (first | refine blk_drewN ?_ _ | refine blk_drew ?_ | refine blk_alloc ?_ _)); refine blk_far ?_ NB465_515.out _; (with_reducible repeat (first | refine blk_drewN ?_ _ | refine blk_drew ?_ | refine blk_alloc ?_ _)); refine blk_far ?_ NB465_515.out _; (with_reducible repeat (first | refine blk_drewN ?_ _ | refine blk_drew ?_ | refine blk_alloc ?_ _)); refine blk_far ?_ NB465_515.out _; (with_reducible repeat (first | refine blk_drewN ?_ _ | refine blk_drew ?_ | refine blk_alloc ?_ _)); refine blk_far ?_ NB465_515.out _; (with_reducible repeat (first | refine blk_drewN ?_ _ | refine blk_drew ?_ | refine blk_alloc ?_ _)); exact BK465.out⟩, ⟨by (with_reducible repeat (first | refine blk_drewN ?_ _ | refine blk_drew ?_ | refine blk_alloc ?_ _)); refine blk_far ?_ NB473_515.out _; (with_reducible repeat (first | refine blk_drewN ?_ _ | refine blk_drew ?_ | refine blk_alloc ?_ _)); refine blk_far ?_ NB473_515.out _; (with_reducible repeat (first | refine blk_drewN ?_ _ | refine blk_drew ?_ | refine blk_alloc ?_ _)); refine blk_far ?_ NB473_515.out _; (with_reducible repeat (first | refine blk_drewN ?_ _ | refine blk_drew ?_ | refine blk_alloc ?_ _)); refine blk_far ?_ NB473_515.out _; (with_reducible repeat (first | refine blk_drewN ?_ _ | refine blk_drew ?_ | refine blk_alloc ?_ _)); refine blk_far ?_ NB473_515.out _; (with_reducible repeat (first | refine blk_drewN ?_ _ | refine blk_drew ?_ | refine blk_alloc ?_ _)); refine blk_far ?_ NB473_515.out _; (with_reducible repeat (first | refine blk_drewN ?_ _ | refine blk_drew ?_ | refine blk_alloc ?_ _)); exact BK473.out⟩, ⟨by (with_reducible repeat (first | refine blk_drewN ?_ _ | refine blk_drew ?_ | refine blk_alloc ?_ _)); refine blk_far ?_ NB481_515.out _; (with_reducible repeat (first | refine blk_drewN ?_ _ | refine blk_drew ?_ | refine blk_alloc ?_ _)); refine blk_far ?_ NB481_515.out _; (with_reducible repeat (first | refine blk_drewN ?_ _ | refine blk_drew ?_ | refine blk_alloc ?_ _)); refine blk_far ?_ NB481_515.out _; (with_reducible repeat (first | refine blk_drewN ?_ _ | refine blk_drew ?_ | refine blk_alloc ?_ _)); refine blk_far ?_ NB481_515.out _; (with_reducible repeat (first | refine blk_drewN ?_ _ | refine blk_drew ?_ | refine blk_alloc ?_ _)); refine blk_far ?_ NB481_515.out _; (with_reducible repeat (first | refine blk_drewN ?_ _ | refine blk_drew ?_ | refine blk_alloc ?_ _)); refine blk_far ?_ NB481_515.out _; (with_reducible repeat (first | refine blk_drewN ?_ _ | refine blk_drew ?_ | refine blk_alloc ?_ _)); exact BK481.out⟩, ⟨by (with_reducible repeat (first | refine blk_drewN ?_ _ | refine blk_drew ?_ | refine blk_alloc ?_ _)); refine blk_far ?_ NB490_515.out _; (with_reducible repeat (first | refine blk_drewN ?_ _ | refine blk_drew ?_ | refine blk_alloc ?_ _)); refine blk_far ?_ NB490_515.out _; (with_reducible repeat (first | refine blk_drewN ?_ _ | refine blk_drew ?_ | refine blk_alloc ?_ _)); refine blk_far ?_ NB490_515.out _; (with_reducible repeat (first | refine blk_drewN ?_ _ | refine blk_drew ?_ | refine blk_alloc ?_ _)); refine blk_far ?_ NB490_515.out _; (with_reducible repeat (first | refine blk_drewN ?_ _ | refine blk_drew ?_ | refine blk_alloc ?_ _)); refine blk_far ?_ NB490_515.out _; (with_reducible repeat (first | refine blk_drewN ?_ _ | refine blk_drew ?_ | refine blk_alloc ?_ _)); refine blk_far ?_ NB490_515.out _; (with_reducible repeat (first | refine blk_drewN ?_ _ | refine blk_drew ?_ | refine blk_alloc ?_ _)); exact BK490.out⟩, ⟨by (with_reducible repeat (first | refine blk_drewN ?_ _ | refine blk_drew ?_ | refine blk_alloc ?_ _)); refine blk_far ?_ NB491_515.out _; (with_reducible repeat (first | refine blk_drewN ?_ _ | refine blk_drew ?_ | refine blk_alloc ?_ _)); refine blk_far ?_ NB491_515.out _; (with_reducible repeat (first | refine blk_drewN ?_ _ | refine blk_drew ?_ | refine blk_alloc ?_ _)); refine blk_far ?_ NB491_515.out _; (with_reducible repeat (first | refine blk_drewN ?_ _ | refine blk_drew ?_ | refine blk_alloc ?_ _)); refine blk_far ?_ NB491_515.out _; (with_reducible repeat (first | refine blk_drewN ?_ _ | refine blk_drew ?_ | refine blk_alloc ?_ _)); refine blk_far ?_ NB491_515.out _; (with_reducible repeat (first | refine blk_drewN ?_ _ | refine blk_drew ?_ | refine blk_alloc ?_ _)); refine blk_far ?_ NB491_515.out _; (with_reducible repeat (first | refine blk_drewN ?_ _ | refine blk_drew ?_ | refine blk_alloc ?_ _)); exact BK491.out⟩, ⟨by (with_reducible repeat (first | refine blk_drewN ?_ _ | refine blk_drew ?_ | refine blk_alloc ?_ _)); refine blk_far ?_ NB499_515.out _; (with_reducible repeat (first | refine blk_drewN ?_ _ | refine blk_drew ?_ | refine blk_alloc ?_ _)); refine blk_far ?_ NB499_515.out _; (with_reducible repeat (first | refine blk_drewN ?_ _ | refine blk_drew ?_ | refine blk_alloc ?_ _)); refine blk_far ?_ NB499_515.out _; (with_reducible repeat (first | refine blk_drewN ?_ _ | refine blk_drew ?_ | refine blk_alloc ?_ _)); refine blk_far ?_ NB499_515.out _; (with_reducible repeat (first | refine blk_drewN ?_ _ | refine blk_drew ?_ | refine blk_alloc ?_ _)); refine blk_far ?_ NB499_515.out _; (with_reducible repeat (first | refine blk_drewN ?_ _ | refine blk_drew ?_ | refine blk_alloc ?_ _)); refine blk_far ?_ NB499_515.out _; (with_reducible repeat (first | refine blk_drewN ?_ _ | refine blk_drew ?_ | refine blk_alloc ?_ _)); exact BK499.out⟩, ⟨by (with_reducible repeat (first | refine blk_drewN ?_ _ | refine blk_drew ?_ | refine blk_alloc ?_ _)); refine blk_far ?_ NB507_515.out _; (with_reducible repeat (first | refine blk_drewN ?_ _ | refine blk_drew ?_ | refine blk_alloc ?_ _)); refine blk_far ?_ NB507_515.out _; (with_reducible repeat (first | refine blk_drewN ?_ _ | refine blk_drew ?_ | refine blk_alloc ?_ _)); refine blk_far ?_ NB507_515.out _; (with_reducible repeat (first | refine blk_drewN ?_ _ | refine blk_drew ?_ | refine blk_alloc ?_ _)); refine blk_far ?_ NB507_515.out _; (with_reducible repeat (first | refine blk_drewN ?_ _ | refine blk_drew ?_ | refine blk_alloc ?_ _)); refine blk_far ?_ NB507_515.out _; (with_reducible repeat (first | refine blk_drewN ?_ _ | refine blk_drew ?_ | refine blk_alloc ?_ _)); refine blk_far ?_ NB507_515.out _; (with_reducible repeat (first | refine blk_drewN ?_ _ | refine blk_drew ?_ | refine blk_alloc ?_ _)); exact BK507.out⟩, ⟨by (with_reducible repeat (first | refine blk_drewN ?_ _ | refine blk_drew ?_ | refine blk_alloc ?_ _)); refine blk_put (cs := #[.int .i64 t508, .int .i64 t509, .int .i64 t510, .int .i64 t511, .int .i64 t512, .int .i64 0]) ?_ 5 _ rfl; (with_reducible repeat (first | refine blk_drewN ?_ _ | refine blk_drew ?_ | refine blk_alloc ?_ _)); refine blk_put (cs := #[.int .i64 t508, .int .i64 t509, .int .i64 t510, .int .i64 t511, .int .i64 0, .int .i64 0]) ?_ 4 _ rfl; (with_reducible repeat (first | refine blk_drewN ?_ _ | refine blk_drew ?_ | refine blk_alloc ?_ _)); refine blk_put (cs := #[.int .i64 t508, .int .i64 t509, .int .i64 t510, .int .i64 0, .int .i64 0, .int .i64 0]) ?_ 3 _ rfl; (with_reducible repeat (first | refine blk_drewN ?_ _ | refine blk_drew ?_ | refine blk_alloc ?_ _)); refine blk_put (cs := #[.int .i64 t508, .int .i64 t509, .int .i64 0, .int .i64 0, .int .i64 0, .int .i64 0]) ?_ 2 _ rfl; (with_reducible repeat (first | refine blk_drewN ?_ _ | refine blk_drew ?_ | refine blk_alloc ?_ _)); refine blk_put (cs := #[.int .i64 t508, .int .i64 0, .int .i64 0, .int .i64 0, .int .i64 0, .int .i64 0]) ?_ 1 _ rfl; (with_reducible repeat (first | refine blk_drewN ?_ _ | refine blk_drew ?_ | refine blk_alloc ?_ _)); refine blk_put (cs := #[.int .i64 0, .int .i64 0, .int .i64 0, .int .i64 0, .int .i64 0, .int .i64 0]) ?_ 0 _ rfl; (with_reducible repeat (first | refine blk_drewN ?_ _ | refine blk_drew ?_ | refine blk_alloc ?_ _)); exact BK515.out⟩, ⟨by repeat (first | (with_reducible first | exact HB.out | apply below_alloc | apply pw_below_drewN | apply below_drew1 | refine below_set ?_ GE464.out | refine below_set ?_ GE465.out | refine below_set ?_ GE473.out | refine below_set ?_ GE481.out | refine below_set ?_ GE490.out | refine below_set ?_ GE491.out | refine below_set ?_ GE499.out | refine below_set ?_ GE507.out | refine below_set ?_ GE515.out) | exact HB.out)⟩⟩
            case rest =>
              clear HC127
              try clear c1
              try clear c2
              try clear p2
              try clear c3
              try clear c4
              try clear c5
              try clear c6
              try clear c7
              try clear c8
              try clear c9
              try clear c10
              try clear c11
              try clear c12
              try clear c13
              try clear c14
              try clear c15
              try clear c16
              try clear c19
              try clear c20
              try clear c26
              try clear c27
              try clear c28
              try clear c33
              try clear c34
              try clear c35
              try clear c36
              try clear c37
              try clear c39
              try clear c40
              try clear c41
              try clear c42
              try clear c46
              try clear c47
              try clear c48
              try clear c49
              try clear c50
              try clear c51
              try clear c52
              try clear c53
              try clear c54
              try clear c55
              try clear c56
              try clear c57
              try clear c58
              try clear c59
              try clear c60
              try clear c61
              try clear c62
              try clear c63
              try clear c65
              try clear c65b0
              try clear c65b1
              try clear c66
              try clear c66b0
              try clear c67
              try clear c68
              try clear c69
              try clear c70
              try clear c71
              try clear c72
              try clear c73
              try clear c75
              try clear c76
              try clear c77
              try clear c78
              try clear c79
              try clear c80
              try clear c82
              try clear c82b0
              try clear c82b1
              try clear c83
              try clear c84
              try clear c85
              try clear c86
              try clear c87
              try clear c88
              try clear c89
              try clear c91
              try clear c92
              try clear c93
              try clear c94
              try clear c95
              try clear c96
              try clear c98
              try clear c99
              try clear c100
              try clear c101
              try clear c102
              try clear c104
              try clear c105
              try clear c106
              try clear c107
              try clear c109
              try clear c110
              try clear c111
              try clear c112
              try clear c113
              try clear c114
              try clear c115
              try clear c117
              try clear c118
              try clear c119
              try clear c120
              try clear c121
              try clear c122
              try clear c124
              try clear c125
              try clear c125b0
              try clear c125b1
              try clear c128
              try clear c129
              try clear c130
              try clear c131
              try clear c132
              try clear c133
              try clear c134
              try clear c138
              try clear c139
              try clear c140
              try clear c141
              try clear c142
              try clear c143
              try clear c144
              try clear c145
              try clear c147
              try clear c147b0
              try clear c147b1
              try clear c148
              try clear c149
              try clear c150
              try clear c151
              try clear c152
              try clear c153
              try clear c154
              try clear c155
              try clear c157
              try clear c158
              try clear c159
              try clear c160
              try clear c161
              try clear c162
              try clear c163
              try clear hcz103_0
              try clear hcz103_1
              try clear hcz103_2
              try clear hcz103_3
              try clear hcz103_4
              try clear hcz103_5
              try clear hcz108_0
              try clear hcz108_1
              try clear hcz108_2
              try clear hcz108_3
              try clear hcz108_4
              try clear hcz108_5
              try clear hcz116_0
              try clear hcz116_1
              try clear hcz116_2
              try clear hcz116_3
              try clear hcz116_4
              try clear hcz116_5
              try clear hcz123_0
              try clear hcz123_1
              try clear hcz123_2
              try clear hcz123_3
              try clear hcz123_4
              try clear hcz123_5
              try clear hcz135_0
              try clear hcz135_1
              try clear hcz135_2
              try clear hcz135_3
              try clear hcz135_4
              try clear hcz135_5
              try clear hcz146_0
              try clear hcz146_1
              try clear hcz146_2
              try clear hcz146_3
              try clear hcz146_4
              try clear hcz146_5
              try clear hcz156_0
              try clear hcz156_1
              try clear hcz156_2
              try clear hcz156_3
              try clear hcz156_4
              try clear hcz156_5
              try clear hcz15_0
              try clear hcz15_1
              try clear hcz15_2
              try clear hcz15_3
              try clear hcz15_4
              try clear hcz15_5
              try clear hcz164_0
              try clear hcz164_1
              try clear hcz164_2
              try clear hcz164_3
              try clear hcz164_4
              try clear hcz164_5
              try clear hcz16_0
              try clear hcz16_1
              try clear hcz16_2
              try clear hcz16_3
              try clear hcz16_4
              try clear hcz16_5
              try clear hcz21_0
              try clear hcz21_1
              try clear hcz21_2
              try clear hcz21_3
              try clear hcz21_4
              try clear hcz21_5
              try clear hcz22_0
              try clear hcz22_1
              try clear hcz22_2
              try clear hcz22_3
              try clear hcz22_4
              try clear hcz22_5
              try clear hcz23_0
              try clear hcz23_1
              try clear hcz23_2
              try clear hcz23_3
              try clear hcz23_4
              try clear hcz23_5
              try clear hcz29_0
              try clear hcz29_1
              try clear hcz29_2
              try clear hcz29_3
              try clear hcz29_4
              try clear hcz29_5
              try clear hcz38_0
              try clear hcz38_1
              try clear hcz38_2
              try clear hcz38_3
              try clear hcz38_4
              try clear hcz38_5
              try clear hcz43_0
              try clear hcz43_1
              try clear hcz52_0
              try clear hcz52_1
              try clear hcz52_2
              try clear hcz52_3
              try clear hcz52_4
              try clear hcz52_5
              try clear hcz53_0
              try clear hcz53_1
              try clear hcz53_2
              try clear hcz53_3
              try clear hcz53_4
              try clear hcz53_5
              try clear hcz54_0
              try clear hcz54_1
              try clear hcz64_0
              try clear hcz64_1
              try clear hcz64_2
              try clear hcz64_3
              try clear hcz64_4
              try clear hcz64_5
              try clear hcz74_0
              try clear hcz74_1
              try clear hcz74_2
              try clear hcz74_3
              try clear hcz74_4
              try clear hcz74_5
              try clear hcz81_0
              try clear hcz81_1
              try clear hcz81_2
              try clear hcz81_3
              try clear hcz81_4
              try clear hcz81_5
              try clear hcz90_0
              try clear hcz90_1
              try clear hcz90_2
              try clear hcz90_3
              try clear hcz90_4
              try clear hcz90_5
              try clear hcz97_0
              try clear hcz97_1
              try clear hcz97_2
              try clear hcz97_3
              try clear hcz97_4
              try clear hcz97_5
              try clear hfz103_0
              try clear hfz103_1
              try clear hfz103_2
              try clear hfz103_3
              try clear hfz103_4
              try clear hfz103_5
              try clear hfz108_0
              try clear hfz108_1
              try clear hfz108_2
              try clear hfz108_3
              try clear hfz108_4
              try clear hfz108_5
              try clear hfz116_0
              try clear hfz116_1
              try clear hfz116_2
              try clear hfz116_3
              try clear hfz116_4
              try clear hfz116_5
              try clear hfz123_0
              try clear hfz123_1
              try clear hfz123_2
              try clear hfz123_3
              try clear hfz123_4
              try clear hfz123_5
              try clear hfz135_0
              try clear hfz135_1
              try clear hfz135_2
              try clear hfz135_3
              try clear hfz135_4
              try clear hfz135_5
              try clear hfz146_0
              try clear hfz146_1
              try clear hfz146_2
              try clear hfz146_3
              try clear hfz146_4
              try clear hfz146_5
              try clear hfz156_0
              try clear hfz156_1
              try clear hfz156_2
              try clear hfz156_3
              try clear hfz156_4
              try clear hfz156_5
              try clear hfz15_0
              try clear hfz15_1
              try clear hfz15_2
              try clear hfz15_3
              try clear hfz15_4
              try clear hfz15_5
              try clear hfz164_0
              try clear hfz164_1
              try clear hfz164_2
              try clear hfz164_3
              try clear hfz164_4
              try clear hfz164_5
              try clear hfz16_0
              try clear hfz16_1
              try clear hfz16_2
              try clear hfz16_3
              try clear hfz16_4
              try clear hfz16_5
              try clear hfz21_0
              try clear hfz21_1
              try clear hfz21_2
              try clear hfz21_3
              try clear hfz21_4
              try clear hfz21_5
              try clear hfz22_0
              try clear hfz22_1
              try clear hfz22_2
              try clear hfz22_3
              try clear hfz22_4
              try clear hfz22_5
              try clear hfz23_0
              try clear hfz23_1
              try clear hfz23_2
              try clear hfz23_3
              try clear hfz23_4
              try clear hfz23_5
              try clear hfz29_0
              try clear hfz29_1
              try clear hfz29_2
              try clear hfz29_3
              try clear hfz29_4
              try clear hfz29_5
              try clear hfz38_0
              try clear hfz38_1
              try clear hfz38_2
              try clear hfz38_3
              try clear hfz38_4
              try clear hfz38_5
              try clear hfz43_0
              try clear hfz43_1
              try clear hfz52_0
              try clear hfz52_1
              try clear hfz52_2
              try clear hfz52_3
              try clear hfz52_4
              try clear hfz52_5
              try clear hfz53_0
              try clear hfz53_1
              try clear hfz53_2
              try clear hfz53_3
              try clear hfz53_4
              try clear hfz53_5
              try clear hfz54_0
              try clear hfz54_1
              try clear hfz64_0
              try clear hfz64_1
              try clear hfz64_2
              try clear hfz64_3
              try clear hfz64_4
              try clear hfz64_5
              try clear hfz74_0
              try clear hfz74_1
              try clear hfz74_2
              try clear hfz74_3
              try clear hfz74_4
              try clear hfz74_5
              try clear hfz81_0
              try clear hfz81_1
              try clear hfz81_2
              try clear hfz81_3
              try clear hfz81_4
              try clear hfz81_5
              try clear hfz90_0
              try clear hfz90_1
              try clear hfz90_2
              try clear hfz90_3
              try clear hfz90_4
              try clear hfz90_5
              try clear hfz97_0
              try clear hfz97_1
              try clear hfz97_2
              try clear hfz97_3
              try clear hfz97_4
              try clear hfz97_5
              try clear p2
              obtain ⟨kq, x87_126, rfl, HA, HJ126, BK464, BK465, BK473, BK481, BK490, BK491, BK499, BK507, BK515, HB⟩ := hcut
              cases kq with
              | zero => exact absurd HA.out (by simp [laws_FnVectorSums.j1])
              | succ kj126 =>
                have H := HA.out
                clear HA
                simp only [laws_FnVectorSums.j1] at H
                by_cases c165 : x87_126 = true
                · subst c165
                  have H1 : (some false) = some true := by rw [if_pos rfl] at H <;> exact H
                  exact absurd H1 (by decide)
                · replace c165 := Bool.eq_false_iff.mpr c165
                  subst c165
                  have H1 : (if t472 = 0 then ((impl_AddVectors.f kj126 t458 t459 t460 t461 t462 t463 t452 t453 t454 t455 t456 t457).bind fun bt516 => (if bt516.2.2.2.2.2.2 = 0 then (some ((bt516.1 == t466 && (bt516.2.1 == t467)) && ((bt516.2.2.1 == t468 && (bt516.2.2.2.1 == t469)) && ((bt516.2.2.2.2.1 == t470 && (bt516.2.2.2.2.2.1 == t471)))))) else (some false))) else (some true)) = some true := by rw [if_neg (show ¬ (false = true) by decide)] at H <;> exact H
                  clear H
                  have H := H1
                  clear H1
                  by_cases c166 : t472 = 0
                  · rw [if_pos c166] at H
                    have c166b0 : (t472 == 0) = true := beq_iff_eq.mpr c166
                    have c166b1 : (t472 != 0) = false := bne_eq_false_iff_eq.mpr c166
                    clear c166
                    replace H := Option.bind_eq_some_iff.mp H
                    obtain ⟨⟨t516, t517, t518, t519, t520, t521, t522⟩, A1670, H⟩ := H
                    replace H : (if t522 = 0 then (some ((t516 == t466 && (t517 == t467)) && ((t518 == t468 && (t519 == t469)) && ((t520 == t470 && (t521 == t471)))))) else (some false)) = some true := H
                    have A167 := Aside0.mk A1670
                    clear A1670
                    by_cases c168 : t522 = 0
                    · rw [if_pos c168] at H
                      have c168b0 : (t522 == 0) = true := beq_iff_eq.mpr c168
                      have c168b1 : (t522 != 0) = false := bne_eq_false_iff_eq.mpr c168
                      clear c168
                      have HT_ := Aside0.mk (Option.some.inj H)
                      clear H
                      have hnb169 := NB465_464.out
                      have hnc169 := NB464_465.out
                      have hnb170 := NB465_473.out
                      have hnc170 := NB473_465.out
                      have hnb171 := NB465_481.out
                      have hnc171 := NB481_465.out
                      have hnb172 := NB465_490.out
                      have hnc172 := NB490_465.out
                      have hnb173 := NB465_491.out
                      have hnc173 := NB491_465.out
                      have hnb174 := NB465_499.out
                      have hnc174 := NB499_465.out
                      have hnb175 := NB465_507.out
                      have hnc175 := NB507_465.out
                      have hnb176 := NB465_515.out
                      have hnc176 := NB515_465.out
                      have hcz177_0 : wc.cell? ⟨gb465, 0, none⟩ = some (.int .i64 t458) := (blk_cell BK465.out 0).trans rfl
                      have hcz177_1 : wc.cell? ⟨gb465, 1, none⟩ = some (.int .i64 t459) := (blk_cell BK465.out 1).trans rfl
                      have hcz177_2 : wc.cell? ⟨gb465, 2, none⟩ = some (.int .i64 t460) := (blk_cell BK465.out 2).trans rfl
                      have hcz177_3 : wc.cell? ⟨gb465, 3, none⟩ = some (.int .i64 t461) := (blk_cell BK465.out 3).trans rfl
                      have hcz177_4 : wc.cell? ⟨gb465, 4, none⟩ = some (.int .i64 t462) := (blk_cell BK465.out 4).trans rfl
                      have hcz177_5 : wc.cell? ⟨gb465, 5, none⟩ = some (.int .i64 t463) := (blk_cell BK465.out 5).trans rfl
                      have hfz177_0 := blk_frozen BK465.out 0
                      have hfz177_1 := blk_frozen BK465.out 1
                      have hfz177_2 := blk_frozen BK465.out 2
                      have hfz177_3 := blk_frozen BK465.out 3
                      have hfz177_4 := blk_frozen BK465.out 4
                      have hfz177_5 := blk_frozen BK465.out 5
                      have hnb178 := NB464_473.out
                      have hnc178 := NB473_464.out
                      have hnb179 := NB464_481.out
                      have hnc179 := NB481_464.out
                      have hnb180 := NB464_490.out
                      have hnc180 := NB490_464.out
                      have hnb181 := NB464_491.out
                      have hnc181 := NB491_464.out
                      have hnb182 := NB464_499.out
                      have hnc182 := NB499_464.out
                      have hnb183 := NB464_507.out
                      have hnc183 := NB507_464.out
                      have hnb184 := NB464_515.out
                      have hnc184 := NB515_464.out
                      have hcz185_0 : wc.cell? ⟨gb464, 0, none⟩ = some (.int .i64 t452) := (blk_cell BK464.out 0).trans rfl
                      have hcz185_1 : wc.cell? ⟨gb464, 1, none⟩ = some (.int .i64 t453) := (blk_cell BK464.out 1).trans rfl
                      have hcz185_2 : wc.cell? ⟨gb464, 2, none⟩ = some (.int .i64 t454) := (blk_cell BK464.out 2).trans rfl
                      have hcz185_3 : wc.cell? ⟨gb464, 3, none⟩ = some (.int .i64 t455) := (blk_cell BK464.out 3).trans rfl
                      have hcz185_4 : wc.cell? ⟨gb464, 4, none⟩ = some (.int .i64 t456) := (blk_cell BK464.out 4).trans rfl
                      have hcz185_5 : wc.cell? ⟨gb464, 5, none⟩ = some (.int .i64 t457) := (blk_cell BK464.out 5).trans rfl
                      have hfz185_0 := blk_frozen BK464.out 0
                      have hfz185_1 := blk_frozen BK464.out 1
                      have hfz185_2 := blk_frozen BK464.out 2
                      have hfz185_3 := blk_frozen BK464.out 3
                      have hfz185_4 := blk_frozen BK464.out 4
                      have hfz185_5 := blk_frozen BK464.out 5
                      go_wp2_with (first | ((with_reducible refine gate_callee (f := 52) rfl ?_); refine goesL_ (some 93) rfl rfl Try.func52 (by kernel_rfl) rfl #[.agg #[.int .i64 t458, .int .i64 t459, .int .i64 t460, .int .i64 t461, .int .i64 t462, .int .i64 t463], .agg #[.int .i64 t452, .int .i64 t453, .int .i64 t454, .int .i64 t455, .int .i64 t456, .int .i64 t457]] rfl (by (try simp only [List.map_toArray, List.map_cons, List.map_nil]); first | done | rfl | (simp only [List.length_drop, List.length_take]; rfl)) ?_; (with_reducible refine (impl_AddVectors.calls kj126 t458 t459 t460 t461 t462 t463 t452 t453 t454 t455 t456 t457 t516 t517 t518 t519 t520 t521 t522 _ A167.out).mono ?_); rintro e w186 ⟨rfl, hb⟩; refine ⟨_, rfl, ?_⟩; have n0_ := Aside0.mk (blk_below (g := gb464) (o := .cells #[.int .i64 t452, .int .i64 t453, .int .i64 t454, .int .i64 t455, .int .i64 t456, .int .i64 t457] 44 (0, 0)) (by (with_reducible repeat (first | refine blk_drewN ?_ _ | refine blk_drew ?_ | refine blk_alloc ?_ _)); exact BK464.out) hb); have n1_ := Aside0.mk (blk_below (g := gb465) (o := .cells #[.int .i64 t458, .int .i64 t459, .int .i64 t460, .int .i64 t461, .int .i64 t462, .int .i64 t463] 44 (0, 0)) (by (with_reducible repeat (first | refine blk_drewN ?_ _ | refine blk_drew ?_ | refine blk_alloc ?_ _)); exact BK465.out) hb); have n2_ := Aside0.mk (blk_below (g := gb473) (o := .cells #[.int .i64 t466, .int .i64 t467, .int .i64 t468, .int .i64 t469, .int .i64 t470, .int .i64 t471] 44 (0, 0)) (by (with_reducible repeat (first | refine blk_drewN ?_ _ | refine blk_drew ?_ | refine blk_alloc ?_ _)); exact BK473.out) hb); have n3_ := Aside0.mk (blk_below (g := gb481) (o := .cells #[.int .i64 t474, .int .i64 t475, .int .i64 t476, .int .i64 t477, .int .i64 t478, .int .i64 t479] 44 (0, 0)) (by (with_reducible repeat (first | refine blk_drewN ?_ _ | refine blk_drew ?_ | refine blk_alloc ?_ _)); exact BK481.out) hb); have n4_ := Aside0.mk (blk_below (g := gb490) (o := .cells #[.int .i64 t482, .int .i64 t483, .int .i64 t484, .int .i64 t485, .int .i64 t486, .int .i64 t487] 44 (0, 0)) (by (with_reducible repeat (first | refine blk_drewN ?_ _ | refine blk_drew ?_ | refine blk_alloc ?_ _)); exact BK490.out) hb); have n5_ := Aside0.mk (blk_below (g := gb491) (o := .cells #[.int .i64 t488, .int .i64 t489] 33 (0, 0)) (by (with_reducible repeat (first | refine blk_drewN ?_ _ | refine blk_drew ?_ | refine blk_alloc ?_ _)); exact BK491.out) hb); have n6_ := Aside0.mk (blk_below (g := gb499) (o := .cells #[.int .i64 t492, .int .i64 t493, .int .i64 t494, .int .i64 t495, .int .i64 t496, .int .i64 t497] 44 (0, 0)) (by (with_reducible repeat (first | refine blk_drewN ?_ _ | refine blk_drew ?_ | refine blk_alloc ?_ _)); exact BK499.out) hb); have n7_ := Aside0.mk (blk_below (g := gb507) (o := .cells #[.int .i64 t500, .int .i64 t501, .int .i64 t502, .int .i64 t503, .int .i64 t504, .int .i64 t505] 44 (0, 0)) (by (with_reducible repeat (first | refine blk_drewN ?_ _ | refine blk_drew ?_ | refine blk_alloc ?_ _)); exact BK507.out) hb); have n8_ := Aside0.mk (blk_below (g := gb515) (o := .cells #[.int .i64 t508, .int .i64 t509, .int .i64 t510, .int .i64 t511, .int .i64 t512, .int .i64 t513] 44 (0, 0)) (by (with_reducible repeat (first | refine blk_drewN ?_ _ | refine blk_drew ?_ | refine blk_alloc ?_ _)); exact BK515.out) hb); have n9_ := Aside0.mk (below_step (by repeat (first | (with_reducible first | exact HB.out | apply below_alloc | apply pw_below_drewN | apply below_drew1 | refine below_set ?_ GE464.out | refine below_set ?_ GE465.out | refine below_set ?_ GE473.out | refine below_set ?_ GE481.out | refine below_set ?_ GE490.out | refine below_set ?_ GE491.out | refine below_set ?_ GE499.out | refine below_set ?_ GE507.out | refine below_set ?_ GE515.out) | exact HB.out)) hb); clear BK464; clear BK465; clear BK473; clear BK481; clear BK490; clear BK491; clear BK499; clear BK507; clear BK515; clear HB; have BK464 := n0_; have BK465 := n1_; have BK473 := n2_; have BK481 := n3_; have BK490 := n4_; have BK491 := n5_; have BK499 := n6_; have BK507 := n7_; have BK515 := n8_; have HB := n9_; clear n0_ n1_ n2_ n3_ n4_ n5_ n6_ n7_ n8_ n9_; (try clear hb); (try clear hb2); (try clear hk); (try clear hi)) | ((with_reducible refine gate_dst (N := 17) rfl ?_); refine box_event ?hg (N := 17) ?hd (cs := #[.int .i64 0, .int .i64 0, .int .i64 0, .int .i64 0, .int .i64 0, .int .i64 0]) (t := 44) ?hr ?_; (case hd => rfl); (case hg => rfl); (case hr => first | (go_simp; done) | (go_simp; rfl)); intro gb523 hg w187 hbox hb; have n0_ := Aside0.mk (blk_below (g := gb464) (o := .cells #[.int .i64 t452, .int .i64 t453, .int .i64 t454, .int .i64 t455, .int .i64 t456, .int .i64 t457] 44 (0, 0)) (by (with_reducible repeat (first | refine blk_drewN ?_ _ | refine blk_drew ?_ | refine blk_alloc ?_ _)); exact BK464.out) hb); have n1_ := Aside0.mk (blk_below (g := gb465) (o := .cells #[.int .i64 t458, .int .i64 t459, .int .i64 t460, .int .i64 t461, .int .i64 t462, .int .i64 t463] 44 (0, 0)) (by (with_reducible repeat (first | refine blk_drewN ?_ _ | refine blk_drew ?_ | refine blk_alloc ?_ _)); exact BK465.out) hb); have n2_ := Aside0.mk (blk_below (g := gb473) (o := .cells #[.int .i64 t466, .int .i64 t467, .int .i64 t468, .int .i64 t469, .int .i64 t470, .int .i64 t471] 44 (0, 0)) (by (with_reducible repeat (first | refine blk_drewN ?_ _ | refine blk_drew ?_ | refine blk_alloc ?_ _)); exact BK473.out) hb); have n3_ := Aside0.mk (blk_below (g := gb481) (o := .cells #[.int .i64 t474, .int .i64 t475, .int .i64 t476, .int .i64 t477, .int .i64 t478, .int .i64 t479] 44 (0, 0)) (by (with_reducible repeat (first | refine blk_drewN ?_ _ | refine blk_drew ?_ | refine blk_alloc ?_ _)); exact BK481.out) hb); have n4_ := Aside0.mk (blk_below (g := gb490) (o := .cells #[.int .i64 t482, .int .i64 t483, .int .i64 t484, .int .i64 t485, .int .i64 t486, .int .i64 t487] 44 (0, 0)) (by (with_reducible repeat (first | refine blk_drewN ?_ _ | refine blk_drew ?_ | refine blk_alloc ?_ _)); exact BK490.out) hb); have n5_ := Aside0.mk (blk_below (g := gb491) (o := .cells #[.int .i64 t488, .int .i64 t489] 33 (0, 0)) (by (with_reducible repeat (first | refine blk_drewN ?_ _ | refine blk_drew ?_ | refine blk_alloc ?_ _)); exact BK491.out) hb); have n6_ := Aside0.mk (blk_below (g := gb499) (o := .cells #[.int .i64 t492, .int .i64 t493, .int .i64 t494, .int .i64 t495, .int .i64 t496, .int .i64 t497] 44 (0, 0)) (by (with_reducible repeat (first | refine blk_drewN ?_ _ | refine blk_drew ?_ | refine blk_alloc ?_ _)); exact BK499.out) hb); have n7_ := Aside0.mk (blk_below (g := gb507) (o := .cells #[.int .i64 t500, .int .i64 t501, .int .i64 t502, .int .i64 t503, .int .i64 t504, .int .i64 t505] 44 (0, 0)) (by (with_reducible repeat (first | refine blk_drewN ?_ _ | refine blk_drew ?_ | refine blk_alloc ?_ _)); exact BK507.out) hb); have n8_ := Aside0.mk (blk_below (g := gb515) (o := .cells #[.int .i64 t508, .int .i64 t509, .int .i64 t510, .int .i64 t511, .int .i64 t512, .int .i64 t513] 44 (0, 0)) (by (with_reducible repeat (first | refine blk_drewN ?_ _ | refine blk_drew ?_ | refine blk_alloc ?_ _)); exact BK515.out) hb); have n9_ := Aside0.mk (below_step (by repeat (first | (with_reducible first | exact HB.out | apply below_alloc | apply pw_below_drewN | apply below_drew1 | refine below_set ?_ GE464.out | refine below_set ?_ GE465.out | refine below_set ?_ GE473.out | refine below_set ?_ GE481.out | refine below_set ?_ GE490.out | refine below_set ?_ GE491.out | refine below_set ?_ GE499.out | refine below_set ?_ GE507.out | refine below_set ?_ GE515.out) | exact HB.out)) hb); have n10_ := Aside0.mk (hbox); have n11_ := Aside0.mk ((by rw [hg]; exact (below_size (by repeat (first | (with_reducible first | exact HB.out | apply below_alloc | apply pw_below_drewN | apply below_drew1 | refine below_set ?_ GE464.out | refine below_set ?_ GE465.out | refine below_set ?_ GE473.out | refine below_set ?_ GE481.out | refine below_set ?_ GE490.out | refine below_set ?_ GE491.out | refine below_set ?_ GE499.out | refine below_set ?_ GE507.out | refine below_set ?_ GE515.out) | exact HB.out))) : w.heap.size ≤ gb523)); have n12_ := Aside0.mk ((by rw [hg]; exact (below_size (by repeat (first | (with_reducible first | exact HB.out | apply below_alloc | apply pw_below_drewN | apply below_drew1 | refine below_set ?_ GE464.out | refine below_set ?_ GE465.out | refine below_set ?_ GE473.out | refine below_set ?_ GE481.out | refine below_set ?_ GE490.out | refine below_set ?_ GE491.out | refine below_set ?_ GE499.out | refine below_set ?_ GE507.out | refine below_set ?_ GE515.out) | exact HB.out))) : w.heap.size ≤ gb523)); have n13_ := Aside0.mk ((by rw [hg]; exact Nat.ne_of_lt (blk_lt (g := gb464) (o := .cells #[.int .i64 t452, .int .i64 t453, .int .i64 t454, .int .i64 t455, .int .i64 t456, .int .i64 t457] 44 (0, 0)) (by (with_reducible repeat (first | refine blk_drewN ?_ _ | refine blk_drew ?_ | refine blk_alloc ?_ _)); exact BK464.out)) : gb464 ≠ gb523)); have n14_ := Aside0.mk ((by rw [hg]; exact Nat.ne_of_gt (blk_lt (g := gb464) (o := .cells #[.int .i64 t452, .int .i64 t453, .int .i64 t454, .int .i64 t455, .int .i64 t456, .int .i64 t457] 44 (0, 0)) (by (with_reducible repeat (first | refine blk_drewN ?_ _ | refine blk_drew ?_ | refine blk_alloc ?_ _)); exact BK464.out)) : gb523 ≠ gb464)); have n15_ := Aside0.mk ((by rw [hg]; exact Nat.ne_of_lt (blk_lt (g := gb465) (o := .cells #[.int .i64 t458, .int .i64 t459, .int .i64 t460, .int .i64 t461, .int .i64 t462, .int .i64 t463] 44 (0, 0)) (by (with_reducible repeat (first | refine blk_drewN ?_ _ | refine blk_drew ?_ | refine blk_alloc ?_ _)); exact BK465.out)) : gb465 ≠ gb523)); have n16_ := Aside0.mk ((by rw [hg]; exact Nat.ne_of_gt (blk_lt (g := gb465) (o := .cells #[.int .i64 t458, .int .i64 t459, .int .i64 t460, .int .i64 t461, .int .i64 t462, .int .i64 t463] 44 (0, 0)) (by (with_reducible repeat (first | refine blk_drewN ?_ _ | refine blk_drew ?_ | refine blk_alloc ?_ _)); exact BK465.out)) : gb523 ≠ gb465)); have n17_ := Aside0.mk ((by rw [hg]; exact Nat.ne_of_lt (blk_lt (g := gb473) (o := .cells #[.int .i64 t466, .int .i64 t467, .int .i64 t468, .int .i64 t469, .int .i64 t470, .int .i64 t471] 44 (0, 0)) (by (with_reducible repeat (first | refine blk_drewN ?_ _ | refine blk_drew ?_ | refine blk_alloc ?_ _)); exact BK473.out)) : gb473 ≠ gb523)); have n18_ := Aside0.mk ((by rw [hg]; exact Nat.ne_of_gt (blk_lt (g := gb473) (o := .cells #[.int .i64 t466, .int .i64 t467, .int .i64 t468, .int .i64 t469, .int .i64 t470, .int .i64 t471] 44 (0, 0)) (by (with_reducible repeat (first | refine blk_drewN ?_ _ | refine blk_drew ?_ | refine blk_alloc ?_ _)); exact BK473.out)) : gb523 ≠ gb473)); have n19_ := Aside0.mk ((by rw [hg]; exact Nat.ne_of_lt (blk_lt (g := gb481) (o := .cells #[.int .i64 t474, .int .i64 t475, .int .i64 t476, .int .i64 t477, .int .i64 t478, .int .i64 t479] 44 (0, 0)) (by (with_reducible repeat (first | refine blk_drewN ?_ _ | refine blk_drew ?_ | refine blk_alloc ?_ _)); exact BK481.out)) : gb481 ≠ gb523)); have n20_ := Aside0.mk ((by rw [hg]; exact Nat.ne_of_gt (blk_lt (g := gb481) (o := .cells #[.int .i64 t474, .int .i64 t475, .int .i64 t476, .int .i64 t477, .int .i64 t478, .int .i64 t479] 44 (0, 0)) (by (with_reducible repeat (first | refine blk_drewN ?_ _ | refine blk_drew ?_ | refine blk_alloc ?_ _)); exact BK481.out)) : gb523 ≠ gb481)); have n21_ := Aside0.mk ((by rw [hg]; exact Nat.ne_of_lt (blk_lt (g := gb490) (o := .cells #[.int .i64 t482, .int .i64 t483, .int .i64 t484, .int .i64 t485, .int .i64 t486, .int .i64 t487] 44 (0, 0)) (by (with_reducible repeat (first | refine blk_drewN ?_ _ | refine blk_drew ?_ | refine blk_alloc ?_ _)); exact BK490.out)) : gb490 ≠ gb523)); have n22_ := Aside0.mk ((by rw [hg]; exact Nat.ne_of_gt (blk_lt (g := gb490) (o := .cells #[.int .i64 t482, .int .i64 t483, .int .i64 t484, .int .i64 t485, .int .i64 t486, .int .i64 t487] 44 (0, 0)) (by (with_reducible repeat (first | refine blk_drewN ?_ _ | refine blk_drew ?_ | refine blk_alloc ?_ _)); exact BK490.out)) : gb523 ≠ gb490)); have n23_ := Aside0.mk ((by rw [hg]; exact Nat.ne_of_lt (blk_lt (g := gb491) (o := .cells #[.int .i64 t488, .int .i64 t489] 33 (0, 0)) (by (with_reducible repeat (first | refine blk_drewN ?_ _ | refine blk_drew ?_ | refine blk_alloc ?_ _)); exact BK491.out)) : gb491 ≠ gb523)); have n24_ := Aside0.mk ((by rw [hg]; exact Nat.ne_of_gt (blk_lt (g := gb491) (o := .cells #[.int .i64 t488, .int .i64 t489] 33 (0, 0)) (by (with_reducible repeat (first | refine blk_drewN ?_ _ | refine blk_drew ?_ | refine blk_alloc ?_ _)); exact BK491.out)) : gb523 ≠ gb491)); have n25_ := Aside0.mk ((by rw [hg]; exact Nat.ne_of_lt (blk_lt (g := gb499) (o := .cells #[.int .i64 t492, .int .i64 t493, .int .i64 t494, .int .i64 t495, .int .i64 t496, .int .i64 t497] 44 (0, 0)) (by (with_reducible repeat (first | refine blk_drewN ?_ _ | refine blk_drew ?_ | refine blk_alloc ?_ _)); exact BK499.out)) : gb499 ≠ gb523)); have n26_ := Aside0.mk ((by rw [hg]; exact Nat.ne_of_gt (blk_lt (g := gb499) (o := .cells #[.int .i64 t492, .int .i64 t493, .int .i64 t494, .int .i64 t495, .int .i64 t496, .int .i64 t497] 44 (0, 0)) (by (with_reducible repeat (first | refine blk_drewN ?_ _ | refine blk_drew ?_ | refine blk_alloc ?_ _)); exact BK499.out)) : gb523 ≠ gb499)); have n27_ := Aside0.mk ((by rw [hg]; exact Nat.ne_of_lt (blk_lt (g := gb507) (o := .cells #[.int .i64 t500, .int .i64 t501, .int .i64 t502, .int .i64 t503, .int .i64 t504, .int .i64 t505] 44 (0, 0)) (by (with_reducible repeat (first | refine blk_drewN ?_ _ | refine blk_drew ?_ | refine blk_alloc ?_ _)); exact BK507.out)) : gb507 ≠ gb523)); have n28_ := Aside0.mk ((by rw [hg]; exact Nat.ne_of_gt (blk_lt (g := gb507) (o := .cells #[.int .i64 t500, .int .i64 t501, .int .i64 t502, .int .i64 t503, .int .i64 t504, .int .i64 t505] 44 (0, 0)) (by (with_reducible repeat (first | refine blk_drewN ?_ _ | refine blk_drew ?_ | refine blk_alloc ?_ _)); exact BK507.out)) : gb523 ≠ gb507)); have n29_ := Aside0.mk ((by rw [hg]; exact Nat.ne_of_lt (blk_lt (g := gb515) (o := .cells #[.int .i64 t508, .int .i64 t509, .int .i64 t510, .int .i64 t511, .int .i64 t512, .int .i64 t513] 44 (0, 0)) (by (with_reducible repeat (first | refine blk_drewN ?_ _ | refine blk_drew ?_ | refine blk_alloc ?_ _)); exact BK515.out)) : gb515 ≠ gb523)); have n30_ := Aside0.mk ((by rw [hg]; exact Nat.ne_of_gt (blk_lt (g := gb515) (o := .cells #[.int .i64 t508, .int .i64 t509, .int .i64 t510, .int .i64 t511, .int .i64 t512, .int .i64 t513] 44 (0, 0)) (by (with_reducible repeat (first | refine blk_drewN ?_ _ | refine blk_drew ?_ | refine blk_alloc ?_ _)); exact BK515.out)) : gb523 ≠ gb515)); clear BK464; clear BK465; clear BK473; clear BK481; clear BK490; clear BK491; clear BK499; clear BK507; clear BK515; clear HB; have BK464 := n0_; have BK465 := n1_; have BK473 := n2_; have BK481 := n3_; have BK490 := n4_; have BK491 := n5_; have BK499 := n6_; have BK507 := n7_; have BK515 := n8_; have HB := n9_; have BK523 := n10_; have GW523 := n11_; have GE523 := n12_; have NB464_523 := n13_; have NB523_464 := n14_; have NB465_523 := n15_; have NB523_465 := n16_; have NB473_523 := n17_; have NB523_473 := n18_; have NB481_523 := n19_; have NB523_481 := n20_; have NB490_523 := n21_; have NB523_490 := n22_; have NB491_523 := n23_; have NB523_491 := n24_; have NB499_523 := n25_; have NB523_499 := n26_; have NB507_523 := n27_; have NB523_507 := n28_; have NB515_523 := n29_; have NB523_515 := n30_; clear n0_ n1_ n2_ n3_ n4_ n5_ n6_ n7_ n8_ n9_ n10_ n11_ n12_ n13_ n14_ n15_ n16_ n17_ n18_ n19_ n20_ n21_ n22_ n23_ n24_ n25_ n26_ n27_ n28_ n29_ n30_; clear hb hbox hg; have hnb188 := NB523_464.out; have hnc188 := NB464_523.out; have hnb189 := NB523_465.out; have hnc189 := NB465_523.out; have hnb190 := NB523_473.out; have hnc190 := NB473_523.out; have hnb191 := NB523_481.out; have hnc191 := NB481_523.out; have hnb192 := NB523_490.out; have hnc192 := NB490_523.out; have hnb193 := NB523_491.out; have hnc193 := NB491_523.out; have hnb194 := NB523_499.out; have hnc194 := NB499_523.out; have hnb195 := NB523_507.out; have hnc195 := NB507_523.out; have hnb196 := NB523_515.out; have hnc196 := NB515_523.out; have hcz197_0 : w187.cell? ⟨gb523, 0, none⟩ = some (.int .i64 0) := (blk_cell BK523.out 0).trans rfl; have hcz197_1 : w187.cell? ⟨gb523, 1, none⟩ = some (.int .i64 0) := (blk_cell BK523.out 1).trans rfl; have hcz197_2 : w187.cell? ⟨gb523, 2, none⟩ = some (.int .i64 0) := (blk_cell BK523.out 2).trans rfl; have hcz197_3 : w187.cell? ⟨gb523, 3, none⟩ = some (.int .i64 0) := (blk_cell BK523.out 3).trans rfl; have hcz197_4 : w187.cell? ⟨gb523, 4, none⟩ = some (.int .i64 0) := (blk_cell BK523.out 4).trans rfl; have hcz197_5 : w187.cell? ⟨gb523, 5, none⟩ = some (.int .i64 0) := (blk_cell BK523.out 5).trans rfl; have hfz197_0 := blk_frozen BK523.out 0; have hfz197_1 := blk_frozen BK523.out 1; have hfz197_2 := blk_frozen BK523.out 2; have hfz197_3 := blk_frozen BK523.out 3; have hfz197_4 := blk_frozen BK523.out 4; have hfz197_5 := blk_frozen BK523.out 5; have hnb198 := NB473_481.out; have hnc198 := NB481_473.out; have hnb199 := NB473_490.out; have hnc199 := NB490_473.out; have hnb200 := NB473_491.out; have hnc200 := NB491_473.out; have hnb201 := NB473_499.out; have hnc201 := NB499_473.out; have hnb202 := NB473_507.out; have hnc202 := NB507_473.out; have hnb203 := NB473_515.out; have hnc203 := NB515_473.out; have hcz204_0 : w187.cell? ⟨gb473, 0, none⟩ = some (.int .i64 t466) := (blk_cell BK473.out 0).trans rfl; have hcz204_1 : w187.cell? ⟨gb473, 1, none⟩ = some (.int .i64 t467) := (blk_cell BK473.out 1).trans rfl; have hcz204_2 : w187.cell? ⟨gb473, 2, none⟩ = some (.int .i64 t468) := (blk_cell BK473.out 2).trans rfl; have hcz204_3 : w187.cell? ⟨gb473, 3, none⟩ = some (.int .i64 t469) := (blk_cell BK473.out 3).trans rfl; have hcz204_4 : w187.cell? ⟨gb473, 4, none⟩ = some (.int .i64 t470) := (blk_cell BK473.out 4).trans rfl; have hcz204_5 : w187.cell? ⟨gb473, 5, none⟩ = some (.int .i64 t471) := (blk_cell BK473.out 5).trans rfl; have hfz204_0 := blk_frozen BK473.out 0; have hfz204_1 := blk_frozen BK473.out 1; have hfz204_2 := blk_frozen BK473.out 2; have hfz204_3 := blk_frozen BK473.out 3; have hfz204_4 := blk_frozen BK473.out 4; have hfz204_5 := blk_frozen BK473.out 5))
                      go_ret
                      exact ⟨by first | rfl | (have HT9 := HT_.out; simp only [Bool.and_eq_true, beq_iff_eq] at HT9; simp [HT9]; done) | (have HT9 := HT_.out; simp at HT9; simp [HT9]; done) | (simp [errW_none, errW_some] <;> rfl) | (simp [*, errW_none, errW_some] <;> rfl), by repeat (first | (with_reducible first | exact HB.out | apply below_alloc | apply pw_below_drewN | apply below_drew1 | refine below_set ?_ GE464.out | refine below_set ?_ GE465.out | refine below_set ?_ GE473.out | refine below_set ?_ GE481.out | refine below_set ?_ GE490.out | refine below_set ?_ GE491.out | refine below_set ?_ GE499.out | refine below_set ?_ GE507.out | refine below_set ?_ GE515.out | refine below_set ?_ GE523.out) | exact HB.out)⟩
                    · rw [if_neg c168] at H
                      exact absurd H (by decide)
                  · rw [if_neg c166] at H
                    have c166b0 : (t472 == 0) = false := beq_eq_false_iff_ne.mpr c166
                    have c166b1 : (t472 != 0) = true := bne_iff_ne.mpr c166
                    clear H
                    go_wp2
                    go_ret
                    exact ⟨by first | rfl | (simp [errW_none, errW_some] <;> rfl) | (simp [*, errW_none, errW_some] <;> rfl), by repeat (first | (with_reducible first | exact HB.out | apply below_alloc | apply pw_below_drewN | apply below_drew1 | refine below_set ?_ GE464.out | refine below_set ?_ GE465.out | refine below_set ?_ GE473.out | refine below_set ?_ GE481.out | refine below_set ?_ GE490.out | refine below_set ?_ GE491.out | refine below_set ?_ GE499.out | refine below_set ?_ GE507.out | refine below_set ?_ GE515.out) | exact HB.out)⟩
          · rw [if_neg c125] at H
            have c125b0 : (t498 == 0) = false := beq_eq_false_iff_ne.mpr c125
            have c125b1 : (t498 != 0) = true := bne_iff_ne.mpr c125
            by_cases c234 : t472 = 0
            · rw [if_pos c234] at H
              have c234b0 : (t472 == 0) = true := beq_iff_eq.mpr c234
              have c234b1 : (t472 != 0) = false := bne_eq_false_iff_eq.mpr c234
              clear c234
              replace H := Option.bind_eq_some_iff.mp H
              obtain ⟨⟨t524, t525, t526, t527, t528, t529, t530⟩, A2350, H⟩ := H
              replace H : (if t530 = 0 then (some ((t524 == t466 && (t525 == t467)) && ((t526 == t468 && (t527 == t469)) && ((t528 == t470 && (t529 == t471)))))) else (some false)) = some true := H
              have A235 := Aside0.mk A2350
              clear A2350
              by_cases c236 : t530 = 0
              · rw [if_pos c236] at H
                have c236b0 : (t530 == 0) = true := beq_iff_eq.mpr c236
                have c236b1 : (t530 != 0) = false := bne_eq_false_iff_eq.mpr c236
                clear c236
                have HT_ := Aside0.mk (Option.some.inj H)
                clear H
                have hnb237 := NB465_464.out
                have hnc237 := NB464_465.out
                have hnb238 := NB465_473.out
                have hnc238 := NB473_465.out
                have hnb239 := NB465_481.out
                have hnc239 := NB481_465.out
                have hnb240 := NB465_490.out
                have hnc240 := NB490_465.out
                have hnb241 := NB465_491.out
                have hnc241 := NB491_465.out
                have hnb242 := NB465_499.out
                have hnc242 := NB499_465.out
                have hnb243 := NB465_507.out
                have hnc243 := NB507_465.out
                have hcz244_0 : wc.cell? ⟨gb465, 0, none⟩ = some (.int .i64 t458) := (blk_cell BK465.out 0).trans rfl
                have hcz244_1 : wc.cell? ⟨gb465, 1, none⟩ = some (.int .i64 t459) := (blk_cell BK465.out 1).trans rfl
                have hcz244_2 : wc.cell? ⟨gb465, 2, none⟩ = some (.int .i64 t460) := (blk_cell BK465.out 2).trans rfl
                have hcz244_3 : wc.cell? ⟨gb465, 3, none⟩ = some (.int .i64 t461) := (blk_cell BK465.out 3).trans rfl
                have hcz244_4 : wc.cell? ⟨gb465, 4, none⟩ = some (.int .i64 t462) := (blk_cell BK465.out 4).trans rfl
                have hcz244_5 : wc.cell? ⟨gb465, 5, none⟩ = some (.int .i64 t463) := (blk_cell BK465.out 5).trans rfl
                have hfz244_0 := blk_frozen BK465.out 0
                have hfz244_1 := blk_frozen BK465.out 1
                have hfz244_2 := blk_frozen BK465.out 2
                have hfz244_3 := blk_frozen BK465.out 3
                have hfz244_4 := blk_frozen BK465.out 4
                have hfz244_5 := blk_frozen BK465.out 5
                have hnb245 := NB464_473.out
                have hnc245 := NB473_464.out
                have hnb246 := NB464_481.out
                have hnc246 := NB481_464.out
                have hnb247 := NB464_490.out
                have hnc247 := NB490_464.out
                have hnb248 := NB464_491.out
                have hnc248 := NB491_464.out
                have hnb249 := NB464_499.out
                have hnc249 := NB499_464.out
                have hnb250 := NB464_507.out
                have hnc250 := NB507_464.out
                have hcz251_0 : wc.cell? ⟨gb464, 0, none⟩ = some (.int .i64 t452) := (blk_cell BK464.out 0).trans rfl
                have hcz251_1 : wc.cell? ⟨gb464, 1, none⟩ = some (.int .i64 t453) := (blk_cell BK464.out 1).trans rfl
                have hcz251_2 : wc.cell? ⟨gb464, 2, none⟩ = some (.int .i64 t454) := (blk_cell BK464.out 2).trans rfl
                have hcz251_3 : wc.cell? ⟨gb464, 3, none⟩ = some (.int .i64 t455) := (blk_cell BK464.out 3).trans rfl
                have hcz251_4 : wc.cell? ⟨gb464, 4, none⟩ = some (.int .i64 t456) := (blk_cell BK464.out 4).trans rfl
                have hcz251_5 : wc.cell? ⟨gb464, 5, none⟩ = some (.int .i64 t457) := (blk_cell BK464.out 5).trans rfl
                have hfz251_0 := blk_frozen BK464.out 0
                have hfz251_1 := blk_frozen BK464.out 1
                have hfz251_2 := blk_frozen BK464.out 2
                have hfz251_3 := blk_frozen BK464.out 3
                have hfz251_4 := blk_frozen BK464.out 4
                have hfz251_5 := blk_frozen BK464.out 5
                go_wp2_with (first | ((with_reducible refine gate_callee (f := 52) rfl ?_); refine goesL_ (some 93) rfl rfl Try.func52 (by kernel_rfl) rfl #[.agg #[.int .i64 t458, .int .i64 t459, .int .i64 t460, .int .i64 t461, .int .i64 t462, .int .i64 t463], .agg #[.int .i64 t452, .int .i64 t453, .int .i64 t454, .int .i64 t455, .int .i64 t456, .int .i64 t457]] rfl (by (try simp only [List.map_toArray, List.map_cons, List.map_nil]); first | done | rfl | (simp only [List.length_drop, List.length_take]; rfl)) ?_; (with_reducible refine (impl_AddVectors.calls kj9 t458 t459 t460 t461 t462 t463 t452 t453 t454 t455 t456 t457 t524 t525 t526 t527 t528 t529 t530 _ A235.out).mono ?_); rintro e w252 ⟨rfl, hb⟩; refine ⟨_, rfl, ?_⟩; have n0_ := Aside0.mk (blk_below (g := gb464) (o := .cells #[.int .i64 t452, .int .i64 t453, .int .i64 t454, .int .i64 t455, .int .i64 t456, .int .i64 t457] 44 (0, 0)) (by (with_reducible repeat (first | refine blk_drewN ?_ _ | refine blk_drew ?_ | refine blk_alloc ?_ _)); exact BK464.out) hb); have n1_ := Aside0.mk (blk_below (g := gb465) (o := .cells #[.int .i64 t458, .int .i64 t459, .int .i64 t460, .int .i64 t461, .int .i64 t462, .int .i64 t463] 44 (0, 0)) (by (with_reducible repeat (first | refine blk_drewN ?_ _ | refine blk_drew ?_ | refine blk_alloc ?_ _)); exact BK465.out) hb); have n2_ := Aside0.mk (blk_below (g := gb473) (o := .cells #[.int .i64 t466, .int .i64 t467, .int .i64 t468, .int .i64 t469, .int .i64 t470, .int .i64 t471] 44 (0, 0)) (by (with_reducible repeat (first | refine blk_drewN ?_ _ | refine blk_drew ?_ | refine blk_alloc ?_ _)); exact BK473.out) hb); have n3_ := Aside0.mk (blk_below (g := gb481) (o := .cells #[.int .i64 t474, .int .i64 t475, .int .i64 t476, .int .i64 t477, .int .i64 t478, .int .i64 t479] 44 (0, 0)) (by (with_reducible repeat (first | refine blk_drewN ?_ _ | refine blk_drew ?_ | refine blk_alloc ?_ _)); exact BK481.out) hb); have n4_ := Aside0.mk (blk_below (g := gb490) (o := .cells #[.int .i64 t482, .int .i64 t483, .int .i64 t484, .int .i64 t485, .int .i64 t486, .int .i64 t487] 44 (0, 0)) (by (with_reducible repeat (first | refine blk_drewN ?_ _ | refine blk_drew ?_ | refine blk_alloc ?_ _)); exact BK490.out) hb); have n5_ := Aside0.mk (blk_below (g := gb491) (o := .cells #[.int .i64 t488, .int .i64 t489] 33 (0, 0)) (by (with_reducible repeat (first | refine blk_drewN ?_ _ | refine blk_drew ?_ | refine blk_alloc ?_ _)); exact BK491.out) hb); have n6_ := Aside0.mk (blk_below (g := gb499) (o := .cells #[.int .i64 t492, .int .i64 t493, .int .i64 t494, .int .i64 t495, .int .i64 t496, .int .i64 t497] 44 (0, 0)) (by (with_reducible repeat (first | refine blk_drewN ?_ _ | refine blk_drew ?_ | refine blk_alloc ?_ _)); exact BK499.out) hb); have n7_ := Aside0.mk (blk_below (g := gb507) (o := .cells #[.int .i64 t500, .int .i64 t501, .int .i64 t502, .int .i64 t503, .int .i64 t504, .int .i64 t505] 44 (0, 0)) (by (with_reducible repeat (first | refine blk_drewN ?_ _ | refine blk_drew ?_ | refine blk_alloc ?_ _)); exact BK507.out) hb); have n8_ := Aside0.mk (below_step (by repeat (first | (with_reducible first | exact HB.out | apply below_alloc | apply pw_below_drewN | apply below_drew1 | refine below_set ?_ GE464.out | refine below_set ?_ GE465.out | refine below_set ?_ GE473.out | refine below_set ?_ GE481.out | refine below_set ?_ GE490.out | refine below_set ?_ GE491.out | refine below_set ?_ GE499.out | refine below_set ?_ GE507.out) | exact HB.out)) hb); clear BK464; clear BK465; clear BK473; clear BK481; clear BK490; clear BK491; clear BK499; clear BK507; clear HB; have BK464 := n0_; have BK465 := n1_; have BK473 := n2_; have BK481 := n3_; have BK490 := n4_; have BK491 := n5_; have BK499 := n6_; have BK507 := n7_; have HB := n8_; clear n0_ n1_ n2_ n3_ n4_ n5_ n6_ n7_ n8_; (try clear hb); (try clear hb2); (try clear hk); (try clear hi)) | ((with_reducible refine gate_dst (N := 17) rfl ?_); refine box_event ?hg (N := 17) ?hd (cs := #[.int .i64 0, .int .i64 0, .int .i64 0, .int .i64 0, .int .i64 0, .int .i64 0]) (t := 44) ?hr ?_; (case hd => rfl); (case hg => rfl); (case hr => first | (go_simp; done) | (go_simp; rfl)); intro gb531 hg w253 hbox hb; have n0_ := Aside0.mk (blk_below (g := gb464) (o := .cells #[.int .i64 t452, .int .i64 t453, .int .i64 t454, .int .i64 t455, .int .i64 t456, .int .i64 t457] 44 (0, 0)) (by (with_reducible repeat (first | refine blk_drewN ?_ _ | refine blk_drew ?_ | refine blk_alloc ?_ _)); exact BK464.out) hb); have n1_ := Aside0.mk (blk_below (g := gb465) (o := .cells #[.int .i64 t458, .int .i64 t459, .int .i64 t460, .int .i64 t461, .int .i64 t462, .int .i64 t463] 44 (0, 0)) (by (with_reducible repeat (first | refine blk_drewN ?_ _ | refine blk_drew ?_ | refine blk_alloc ?_ _)); exact BK465.out) hb); have n2_ := Aside0.mk (blk_below (g := gb473) (o := .cells #[.int .i64 t466, .int .i64 t467, .int .i64 t468, .int .i64 t469, .int .i64 t470, .int .i64 t471] 44 (0, 0)) (by (with_reducible repeat (first | refine blk_drewN ?_ _ | refine blk_drew ?_ | refine blk_alloc ?_ _)); exact BK473.out) hb); have n3_ := Aside0.mk (blk_below (g := gb481) (o := .cells #[.int .i64 t474, .int .i64 t475, .int .i64 t476, .int .i64 t477, .int .i64 t478, .int .i64 t479] 44 (0, 0)) (by (with_reducible repeat (first | refine blk_drewN ?_ _ | refine blk_drew ?_ | refine blk_alloc ?_ _)); exact BK481.out) hb); have n4_ := Aside0.mk (blk_below (g := gb490) (o := .cells #[.int .i64 t482, .int .i64 t483, .int .i64 t484, .int .i64 t485, .int .i64 t486, .int .i64 t487] 44 (0, 0)) (by (with_reducible repeat (first | refine blk_drewN ?_ _ | refine blk_drew ?_ | refine blk_alloc ?_ _)); exact BK490.out) hb); have n5_ := Aside0.mk (blk_below (g := gb491) (o := .cells #[.int .i64 t488, .int .i64 t489] 33 (0, 0)) (by (with_reducible repeat (first | refine blk_drewN ?_ _ | refine blk_drew ?_ | refine blk_alloc ?_ _)); exact BK491.out) hb); have n6_ := Aside0.mk (blk_below (g := gb499) (o := .cells #[.int .i64 t492, .int .i64 t493, .int .i64 t494, .int .i64 t495, .int .i64 t496, .int .i64 t497] 44 (0, 0)) (by (with_reducible repeat (first | refine blk_drewN ?_ _ | refine blk_drew ?_ | refine blk_alloc ?_ _)); exact BK499.out) hb); have n7_ := Aside0.mk (blk_below (g := gb507) (o := .cells #[.int .i64 t500, .int .i64 t501, .int .i64 t502, .int .i64 t503, .int .i64 t504, .int .i64 t505] 44 (0, 0)) (by (with_reducible repeat (first | refine blk_drewN ?_ _ | refine blk_drew ?_ | refine blk_alloc ?_ _)); exact BK507.out) hb); have n8_ := Aside0.mk (below_step (by repeat (first | (with_reducible first | exact HB.out | apply below_alloc | apply pw_below_drewN | apply below_drew1 | refine below_set ?_ GE464.out | refine below_set ?_ GE465.out | refine below_set ?_ GE473.out | refine below_set ?_ GE481.out | refine below_set ?_ GE490.out | refine below_set ?_ GE491.out | refine below_set ?_ GE499.out | refine below_set ?_ GE507.out) | exact HB.out)) hb); have n9_ := Aside0.mk (hbox); have n10_ := Aside0.mk ((by rw [hg]; exact (below_size (by repeat (first | (with_reducible first | exact HB.out | apply below_alloc | apply pw_below_drewN | apply below_drew1 | refine below_set ?_ GE464.out | refine below_set ?_ GE465.out | refine below_set ?_ GE473.out | refine below_set ?_ GE481.out | refine below_set ?_ GE490.out | refine below_set ?_ GE491.out | refine below_set ?_ GE499.out | refine below_set ?_ GE507.out) | exact HB.out))) : w.heap.size ≤ gb531)); have n11_ := Aside0.mk ((by rw [hg]; exact (below_size (by repeat (first | (with_reducible first | exact HB.out | apply below_alloc | apply pw_below_drewN | apply below_drew1 | refine below_set ?_ GE464.out | refine below_set ?_ GE465.out | refine below_set ?_ GE473.out | refine below_set ?_ GE481.out | refine below_set ?_ GE490.out | refine below_set ?_ GE491.out | refine below_set ?_ GE499.out | refine below_set ?_ GE507.out) | exact HB.out))) : w.heap.size ≤ gb531)); have n12_ := Aside0.mk ((by rw [hg]; exact Nat.ne_of_lt (blk_lt (g := gb464) (o := .cells #[.int .i64 t452, .int .i64 t453, .int .i64 t454, .int .i64 t455, .int .i64 t456, .int .i64 t457] 44 (0, 0)) (by (with_reducible repeat (first | refine blk_drewN ?_ _ | refine blk_drew ?_ | refine blk_alloc ?_ _)); exact BK464.out)) : gb464 ≠ gb531)); have n13_ := Aside0.mk ((by rw [hg]; exact Nat.ne_of_gt (blk_lt (g := gb464) (o := .cells #[.int .i64 t452, .int .i64 t453, .int .i64 t454, .int .i64 t455, .int .i64 t456, .int .i64 t457] 44 (0, 0)) (by (with_reducible repeat (first | refine blk_drewN ?_ _ | refine blk_drew ?_ | refine blk_alloc ?_ _)); exact BK464.out)) : gb531 ≠ gb464)); have n14_ := Aside0.mk ((by rw [hg]; exact Nat.ne_of_lt (blk_lt (g := gb465) (o := .cells #[.int .i64 t458, .int .i64 t459, .int .i64 t460, .int .i64 t461, .int .i64 t462, .int .i64 t463] 44 (0, 0)) (by (with_reducible repeat (first | refine blk_drewN ?_ _ | refine blk_drew ?_ | refine blk_alloc ?_ _)); exact BK465.out)) : gb465 ≠ gb531)); have n15_ := Aside0.mk ((by rw [hg]; exact Nat.ne_of_gt (blk_lt (g := gb465) (o := .cells #[.int .i64 t458, .int .i64 t459, .int .i64 t460, .int .i64 t461, .int .i64 t462, .int .i64 t463] 44 (0, 0)) (by (with_reducible repeat (first | refine blk_drewN ?_ _ | refine blk_drew ?_ | refine blk_alloc ?_ _)); exact BK465.out)) : gb531 ≠ gb465)); have n16_ := Aside0.mk ((by rw [hg]; exact Nat.ne_of_lt (blk_lt (g := gb473) (o := .cells #[.int .i64 t466, .int .i64 t467, .int .i64 t468, .int .i64 t469, .int .i64 t470, .int .i64 t471] 44 (0, 0)) (by (with_reducible repeat (first | refine blk_drewN ?_ _ | refine blk_drew ?_ | refine blk_alloc ?_ _)); exact BK473.out)) : gb473 ≠ gb531)); have n17_ := Aside0.mk ((by rw [hg]; exact Nat.ne_of_gt (blk_lt (g := gb473) (o := .cells #[.int .i64 t466, .int .i64 t467, .int .i64 t468, .int .i64 t469, .int .i64 t470, .int .i64 t471] 44 (0, 0)) (by (with_reducible repeat (first | refine blk_drewN ?_ _ | refine blk_drew ?_ | refine blk_alloc ?_ _)); exact BK473.out)) : gb531 ≠ gb473)); have n18_ := Aside0.mk ((by rw [hg]; exact Nat.ne_of_lt (blk_lt (g := gb481) (o := .cells #[.int .i64 t474, .int .i64 t475, .int .i64 t476, .int .i64 t477, .int .i64 t478, .int .i64 t479] 44 (0, 0)) (by (with_reducible repeat (first | refine blk_drewN ?_ _ | refine blk_drew ?_ | refine blk_alloc ?_ _)); exact BK481.out)) : gb481 ≠ gb531)); have n19_ := Aside0.mk ((by rw [hg]; exact Nat.ne_of_gt (blk_lt (g := gb481) (o := .cells #[.int .i64 t474, .int .i64 t475, .int .i64 t476, .int .i64 t477, .int .i64 t478, .int .i64 t479] 44 (0, 0)) (by (with_reducible repeat (first | refine blk_drewN ?_ _ | refine blk_drew ?_ | refine blk_alloc ?_ _)); exact BK481.out)) : gb531 ≠ gb481)); have n20_ := Aside0.mk ((by rw [hg]; exact Nat.ne_of_lt (blk_lt (g := gb490) (o := .cells #[.int .i64 t482, .int .i64 t483, .int .i64 t484, .int .i64 t485, .int .i64 t486, .int .i64 t487] 44 (0, 0)) (by (with_reducible repeat (first | refine blk_drewN ?_ _ | refine blk_drew ?_ | refine blk_alloc ?_ _)); exact BK490.out)) : gb490 ≠ gb531)); have n21_ := Aside0.mk ((by rw [hg]; exact Nat.ne_of_gt (blk_lt (g := gb490) (o := .cells #[.int .i64 t482, .int .i64 t483, .int .i64 t484, .int .i64 t485, .int .i64 t486, .int .i64 t487] 44 (0, 0)) (by (with_reducible repeat (first | refine blk_drewN ?_ _ | refine blk_drew ?_ | refine blk_alloc ?_ _)); exact BK490.out)) : gb531 ≠ gb490)); have n22_ := Aside0.mk ((by rw [hg]; exact Nat.ne_of_lt (blk_lt (g := gb491) (o := .cells #[.int .i64 t488, .int .i64 t489] 33 (0, 0)) (by (with_reducible repeat (first | refine blk_drewN ?_ _ | refine blk_drew ?_ | refine blk_alloc ?_ _)); exact BK491.out)) : gb491 ≠ gb531)); have n23_ := Aside0.mk ((by rw [hg]; exact Nat.ne_of_gt (blk_lt (g := gb491) (o := .cells #[.int .i64 t488, .int .i64 t489] 33 (0, 0)) (by (with_reducible repeat (first | refine blk_drewN ?_ _ | refine blk_drew ?_ | refine blk_alloc ?_ _)); exact BK491.out)) : gb531 ≠ gb491)); have n24_ := Aside0.mk ((by rw [hg]; exact Nat.ne_of_lt (blk_lt (g := gb499) (o := .cells #[.int .i64 t492, .int .i64 t493, .int .i64 t494, .int .i64 t495, .int .i64 t496, .int .i64 t497] 44 (0, 0)) (by (with_reducible repeat (first | refine blk_drewN ?_ _ | refine blk_drew ?_ | refine blk_alloc ?_ _)); exact BK499.out)) : gb499 ≠ gb531)); have n25_ := Aside0.mk ((by rw [hg]; exact Nat.ne_of_gt (blk_lt (g := gb499) (o := .cells #[.int .i64 t492, .int .i64 t493, .int .i64 t494, .int .i64 t495, .int .i64 t496, .int .i64 t497] 44 (0, 0)) (by (with_reducible repeat (first | refine blk_drewN ?_ _ | refine blk_drew ?_ | refine blk_alloc ?_ _)); exact BK499.out)) : gb531 ≠ gb499)); have n26_ := Aside0.mk ((by rw [hg]; exact Nat.ne_of_lt (blk_lt (g := gb507) (o := .cells #[.int .i64 t500, .int .i64 t501, .int .i64 t502, .int .i64 t503, .int .i64 t504, .int .i64 t505] 44 (0, 0)) (by (with_reducible repeat (first | refine blk_drewN ?_ _ | refine blk_drew ?_ | refine blk_alloc ?_ _)); exact BK507.out)) : gb507 ≠ gb531)); have n27_ := Aside0.mk ((by rw [hg]; exact Nat.ne_of_gt (blk_lt (g := gb507) (o := .cells #[.int .i64 t500, .int .i64 t501, .int .i64 t502, .int .i64 t503, .int .i64 t504, .int .i64 t505] 44 (0, 0)) (by (with_reducible repeat (first | refine blk_drewN ?_ _ | refine blk_drew ?_ | refine blk_alloc ?_ _)); exact BK507.out)) : gb531 ≠ gb507)); clear BK464; clear BK465; clear BK473; clear BK481; clear BK490; clear BK491; clear BK499; clear BK507; clear HB; have BK464 := n0_; have BK465 := n1_; have BK473 := n2_; have BK481 := n3_; have BK490 := n4_; have BK491 := n5_; have BK499 := n6_; have BK507 := n7_; have HB := n8_; have BK531 := n9_; have GW531 := n10_; have GE531 := n11_; have NB464_531 := n12_; have NB531_464 := n13_; have NB465_531 := n14_; have NB531_465 := n15_; have NB473_531 := n16_; have NB531_473 := n17_; have NB481_531 := n18_; have NB531_481 := n19_; have NB490_531 := n20_; have NB531_490 := n21_; have NB491_531 := n22_; have NB531_491 := n23_; have NB499_531 := n24_; have NB531_499 := n25_; have NB507_531 := n26_; have NB531_507 := n27_; clear n0_ n1_ n2_ n3_ n4_ n5_ n6_ n7_ n8_ n9_ n10_ n11_ n12_ n13_ n14_ n15_ n16_ n17_ n18_ n19_ n20_ n21_ n22_ n23_ n24_ n25_ n26_ n27_; clear hb hbox hg; have hnb254 := NB531_464.out; have hnc254 := NB464_531.out; have hnb255 := NB531_465.out; have hnc255 := NB465_531.out; have hnb256 := NB531_473.out; have hnc256 := NB473_531.out; have hnb257 := NB531_481.out; have hnc257 := NB481_531.out; have hnb258 := NB531_490.out; have hnc258 := NB490_531.out; have hnb259 := NB531_491.out; have hnc259 := NB491_531.out; have hnb260 := NB531_499.out; have hnc260 := NB499_531.out; have hnb261 := NB531_507.out; have hnc261 := NB507_531.out; have hcz262_0 : w253.cell? ⟨gb531, 0, none⟩ = some (.int .i64 0) := (blk_cell BK531.out 0).trans rfl; have hcz262_1 : w253.cell? ⟨gb531, 1, none⟩ = some (.int .i64 0) := (blk_cell BK531.out 1).trans rfl; have hcz262_2 : w253.cell? ⟨gb531, 2, none⟩ = some (.int .i64 0) := (blk_cell BK531.out 2).trans rfl; have hcz262_3 : w253.cell? ⟨gb531, 3, none⟩ = some (.int .i64 0) := (blk_cell BK531.out 3).trans rfl; have hcz262_4 : w253.cell? ⟨gb531, 4, none⟩ = some (.int .i64 0) := (blk_cell BK531.out 4).trans rfl; have hcz262_5 : w253.cell? ⟨gb531, 5, none⟩ = some (.int .i64 0) := (blk_cell BK531.out 5).trans rfl; have hfz262_0 := blk_frozen BK531.out 0; have hfz262_1 := blk_frozen BK531.out 1; have hfz262_2 := blk_frozen BK531.out 2; have hfz262_3 := blk_frozen BK531.out 3; have hfz262_4 := blk_frozen BK531.out 4; have hfz262_5 := blk_frozen BK531.out 5; have hnb263 := NB473_481.out; have hnc263 := NB481_473.out; have hnb264 := NB473_490.out; have hnc264 := NB490_473.out; have hnb265 := NB473_491.out; have hnc265 := NB491_473.out; have hnb266 := NB473_499.out; have hnc266 := NB499_473.out; have hnb267 := NB473_507.out; have hnc267 := NB507_473.out; have hcz268_0 : w253.cell? ⟨gb473, 0, none⟩ = some (.int .i64 t466) := (blk_cell BK473.out 0).trans rfl; have hcz268_1 : w253.cell? ⟨gb473, 1, none⟩ = some (.int .i64 t467) := (blk_cell BK473.out 1).trans rfl; have hcz268_2 : w253.cell? ⟨gb473, 2, none⟩ = some (.int .i64 t468) := (blk_cell BK473.out 2).trans rfl; have hcz268_3 : w253.cell? ⟨gb473, 3, none⟩ = some (.int .i64 t469) := (blk_cell BK473.out 3).trans rfl; have hcz268_4 : w253.cell? ⟨gb473, 4, none⟩ = some (.int .i64 t470) := (blk_cell BK473.out 4).trans rfl; have hcz268_5 : w253.cell? ⟨gb473, 5, none⟩ = some (.int .i64 t471) := (blk_cell BK473.out 5).trans rfl; have hfz268_0 := blk_frozen BK473.out 0; have hfz268_1 := blk_frozen BK473.out 1; have hfz268_2 := blk_frozen BK473.out 2; have hfz268_3 := blk_frozen BK473.out 3; have hfz268_4 := blk_frozen BK473.out 4; have hfz268_5 := blk_frozen BK473.out 5))
                go_ret
                exact ⟨by first | rfl | (have HT9 := HT_.out; simp only [Bool.and_eq_true, beq_iff_eq] at HT9; simp [HT9]; done) | (have HT9 := HT_.out; simp at HT9; simp [HT9]; done) | (simp [errW_none, errW_some] <;> rfl) | (simp [*, errW_none, errW_some] <;> rfl), by repeat (first | (with_reducible first | exact HB.out | apply below_alloc | apply pw_below_drewN | apply below_drew1 | refine below_set ?_ GE464.out | refine below_set ?_ GE465.out | refine below_set ?_ GE473.out | refine below_set ?_ GE481.out | refine below_set ?_ GE490.out | refine below_set ?_ GE491.out | refine below_set ?_ GE499.out | refine below_set ?_ GE507.out | refine below_set ?_ GE531.out) | exact HB.out)⟩
              · rw [if_neg c236] at H
                exact absurd H (by decide)
            · rw [if_neg c234] at H
              have c234b0 : (t472 == 0) = false := beq_eq_false_iff_ne.mpr c234
              have c234b1 : (t472 != 0) = true := bne_iff_ne.mpr c234
              clear H
              go_wp2
              go_ret
              exact ⟨by first | rfl | (simp [errW_none, errW_some] <;> rfl) | (simp [*, errW_none, errW_some] <;> rfl), by repeat (first | (with_reducible first | exact HB.out | apply below_alloc | apply pw_below_drewN | apply below_drew1 | refine below_set ?_ GE464.out | refine below_set ?_ GE465.out | refine below_set ?_ GE473.out | refine below_set ?_ GE481.out | refine below_set ?_ GE490.out | refine below_set ?_ GE491.out | refine below_set ?_ GE499.out | refine below_set ?_ GE507.out) | exact HB.out)⟩
/-- THE ONE PURE STATEMENT of laws_FnVectorSums: yours. -/
def laws_FnVectorSums.Pure : Prop := ∀ (l0 : List Int), l0.length ≤ maxLen → l0.length * 1 ≤ 140737488351232 → (∀ x ∈ l0, (Lit.int .u8 x).wf = true) → ∃ k, laws_FnVectorSums.f k l0 = some true
theorem laws_FnVectorSums.walk (P : laws_FnVectorSums.Pure) (a0 : Option Addr) (len0 cap0 : Nat) (z0 : List Int) (w : World) (w0 : (a0 = none ∧ len0 = 0 ∧ cap0 = 0 ∧ z0 = []) ∨ ∃ x, a0 = some x ∧ len0 ≤ cap0 ∧ cap0 ≤ maxLen ∧ z0.length = cap0 ∧ (∀ i, i < z0.length → w.cell? (x.add i) = some (.int .u8 (z0.getD i 0))) ∧ ∀ n ∈ z0, (Lit.int .u8 n).wf = true) (y0 : len0 * 1 ≤ 140737488351232) :
    Calls Try.prog 8 #[.slice a0 len0 cap0] w fun e w' => e = .returned (.bool true) ∧ Below w.heap.size w w' := by
  obtain ⟨l0, rfl, hr0, hm0, hw0, hc0⟩ := ReadsInt.ofRowC w0
  obtain ⟨k, h⟩ := P l0 hm0 y0 hw0
  refine (laws_FnVectorSums.calls_true k _ _ l0 w (Kd.C_of_reads (d := (0 : Int)) (h1 := fun _ => rfl) hr0) hc0 h).mono ?_
  rintro e w' ⟨rfl, hd⟩
  exact ⟨rfl, hd⟩

end Go.Proofs.Ytcnaocjhfgnphaa.PFnVectorSums
