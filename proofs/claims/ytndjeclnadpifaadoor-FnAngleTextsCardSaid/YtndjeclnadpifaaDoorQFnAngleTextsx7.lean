-- The machine's side of the law FnAngleTexts: functions and their walks, made by q.py out of the kit's own print.
import Derived.Test.YtndjeclnadpifaaDoorQFnAngleTextsx0
import Derived.Test.YtndjeclnadpifaaDoorQFnAngleTextsx2
import Derived.Test.YtndjeclnadpifaaDoorQFnAngleTextsx3
import Derived.Test.YtndjeclnadpifaaDoorQFnAngleTextsx5
import Derived.Test.YtndjeclnadpifaaDoorQFnAngleTextsx6
namespace Go.Proofs.YtndjeclnadpifaaDoor.PFnAngleTexts
open Go.RowKit Go.Proofs.YtndjeclnadpifaaDoorW.PrintWords Go.Proofs.YtndjeclnadpifaaDoorW.PrintLast Go.Proofs.YtndjeclnadpifaaDoorW.PrintMore
attribute [local go_sem] max2_int min2_int max_two min_two max_three min_three max_four min_four   -- for this text's walks alone
set_option linter.unusedVariables false
set_option linter.unusedSimpArgs false

/-! ### spec_ReadAngle: function 32 -/
mutual
def spec_ReadAngle.j0 : Nat → ByteArray → ByteArray → Int → Bool → Option (Int × Int)
  | 0, _, _, _, _ => none
  | k + 1, x0, x4, x5, x22 => if x22 = true then (if 1 ≤ (x4.size : Int) then (spec_ReadAngle.j1 k x0 (x4.extract 1 x4.size) (-1)) else (none)) else (spec_ReadAngle.j1 k x0 x4 x5)
def spec_ReadAngle.j1 : Nat → ByteArray → ByteArray → Int → Option (Int × Int)
  | 0, _, _, _ => none
  | k + 1, x0, x4, x5 => (spec_l01Split.f k x4 100).bind fun t267 => (if (t267.length : Int) = 2 then (if 1 < (t267.length : Int) then (spec_ReadAngle.j2 k x0 x5 t267 (((rdOf ByteArray.empty t267 1).size : Int) != 6)) else (none)) else (spec_ReadAngle.j2 k x0 x5 t267 true))
def spec_ReadAngle.j2 : Nat → ByteArray → Int → List ByteArray → Bool → Option (Int × Int)
  | 0, _, _, _, _ => none
  | k + 1, x0, x5, x6, x36 => if x36 = true then (some (0, 6)) else (if 0 < (x6.length : Int) then ((spec_l01Value.f k (rdOf ByteArray.empty x6 0)).bind fun bt272 => (if bt272.2 = true then (spec_ReadAngle.j3 k x0 x5 x6 bt272.1 (decide (bt272.1 > 360))) else (spec_ReadAngle.j3 k x0 x5 x6 bt272.1 true))) else (none))
def spec_ReadAngle.j3 : Nat → ByteArray → Int → List ByteArray → Int → Bool → Option (Int × Int)
  | 0, _, _, _, _, _ => none
  | k + 1, x0, x5, x6, x7, x49 => if x49 = true then (some (0, 6)) else (spec_ReadAngle.l0 k x0 x5 x6 (wrap64 (x7 * 3600)) 0)
def spec_ReadAngle.l0 : Nat → ByteArray → Int → List ByteArray → Int → Int → Option (Int × Int)
  | 0, _, _, _, _, _ => none
  | k + 1, x0, x5, x6, x9, x10 => if x10 < 2 then (if 1 < (x6.length : Int) then (if 0 ≤ (wrap64 (3 * x10)) then (if (wrap64 (3 * x10)) < ((rdOf ByteArray.empty x6 1).size : Int) then (if 0 ≤ (wrap64 ((wrap64 (3 * x10)) + 1)) then (if (wrap64 ((wrap64 (3 * x10)) + 1)) < ((rdOf ByteArray.empty x6 1).size : Int) then (if (bt (rdOf ByteArray.empty x6 1) (wrap64 (3 * x10))) < 48 then (spec_ReadAngle.j5 k x0 x5 x6 x9 x10 (bt (rdOf ByteArray.empty x6 1) (wrap64 (3 * x10))) (bt (rdOf ByteArray.empty x6 1) (wrap64 ((wrap64 (3 * x10)) + 1))) true) else (if (bt (rdOf ByteArray.empty x6 1) (wrap64 (3 * x10))) > 57 then (spec_ReadAngle.j5 k x0 x5 x6 x9 x10 (bt (rdOf ByteArray.empty x6 1) (wrap64 (3 * x10))) (bt (rdOf ByteArray.empty x6 1) (wrap64 ((wrap64 (3 * x10)) + 1))) true) else (if (bt (rdOf ByteArray.empty x6 1) (wrap64 ((wrap64 (3 * x10)) + 1))) < 48 then (spec_ReadAngle.j5 k x0 x5 x6 x9 x10 (bt (rdOf ByteArray.empty x6 1) (wrap64 (3 * x10))) (bt (rdOf ByteArray.empty x6 1) (wrap64 ((wrap64 (3 * x10)) + 1))) true) else (spec_ReadAngle.j5 k x0 x5 x6 x9 x10 (bt (rdOf ByteArray.empty x6 1) (wrap64 (3 * x10))) (bt (rdOf ByteArray.empty x6 1) (wrap64 ((wrap64 (3 * x10)) + 1))) (decide ((bt (rdOf ByteArray.empty x6 1) (wrap64 ((wrap64 (3 * x10)) + 1))) > 57)))))) else (none)) else (none)) else (none)) else (none)) else (none)) else ((spec_l01In.f (wrap64 (x5 * x9)) (-648000) 1296000).bind fun t276 => (if t276 = true then ((spec_l03Text.f k (wrap64 (x5 * x9))).bind fun t277 => (if t277.toList = x0.toList then (some (wrap64 (x5 * x9), 0)) else (some (0, 6)))) else (some (0, 6))))
def spec_ReadAngle.j5 : Nat → ByteArray → Int → List ByteArray → Int → Int → Int → Int → Bool → Option (Int × Int)
  | 0, _, _, _, _, _, _, _, _ => none
  | k + 1, x0, x5, x6, x9, x10, x11, x12, x82 => if x82 = true then (some (0, 6)) else (if x10 = 0 then (spec_ReadAngle.l0 k x0 x5 x6 (wrap64 (x9 + (60 * ((10 * ((x11 - 48) % 256)) + ((x12 - 48) % 256))))) (wrap64 (x10 + 1))) else (spec_ReadAngle.l0 k x0 x5 x6 (wrap64 (x9 + ((10 * ((x11 - 48) % 256)) + ((x12 - 48) % 256)))) (wrap64 (x10 + 1))))
end
def spec_ReadAngle.f (k : Nat) (a0 : ByteArray) : Option (Int × Int) := if (a0.size : Int) > 0 then (if 0 < (a0.size : Int) then (spec_ReadAngle.j0 k a0 a0 1 ((bt a0 0) == 45)) else (none)) else (spec_ReadAngle.j0 k a0 a0 1 false)
theorem spec_ReadAngle.mono_l : ∀ k, (∀ y0 y1 y2 y3, LeO (spec_ReadAngle.j0 k y0 y1 y2 y3) (spec_ReadAngle.j0 (k + 1) y0 y1 y2 y3)) ∧ (∀ y0 y1 y2, LeO (spec_ReadAngle.j1 k y0 y1 y2) (spec_ReadAngle.j1 (k + 1) y0 y1 y2)) ∧ (∀ y0 y1 y2 y3, LeO (spec_ReadAngle.j2 k y0 y1 y2 y3) (spec_ReadAngle.j2 (k + 1) y0 y1 y2 y3)) ∧ (∀ y0 y1 y2 y3 y4, LeO (spec_ReadAngle.j3 k y0 y1 y2 y3 y4) (spec_ReadAngle.j3 (k + 1) y0 y1 y2 y3 y4)) ∧ (∀ y0 y1 y2 y3 y4, LeO (spec_ReadAngle.l0 k y0 y1 y2 y3 y4) (spec_ReadAngle.l0 (k + 1) y0 y1 y2 y3 y4)) ∧ (∀ y0 y1 y2 y3 y4 y5 y6 y7, LeO (spec_ReadAngle.j5 k y0 y1 y2 y3 y4 y5 y6 y7) (spec_ReadAngle.j5 (k + 1) y0 y1 y2 y3 y4 y5 y6 y7))
  | 0 => ⟨fun _ _ _ _ r h => by simp [spec_ReadAngle.j0] at h, fun _ _ _ r h => by simp [spec_ReadAngle.j1] at h, fun _ _ _ _ r h => by simp [spec_ReadAngle.j2] at h, fun _ _ _ _ _ r h => by simp [spec_ReadAngle.j3] at h, fun _ _ _ _ _ r h => by simp [spec_ReadAngle.l0] at h, fun _ _ _ _ _ _ _ _ r h => by simp [spec_ReadAngle.j5] at h⟩
  | k + 1 => by
    obtain ⟨ih0, ih1, ih2, ih3, ih4, ih5⟩ := spec_ReadAngle.mono_l k
    refine ⟨?_, ?_, ?_, ?_, ?_, ?_⟩
    · intro y0 y1 y2 y3
      unfold spec_ReadAngle.j0
      repeat' first
      | (with_reducible exact ih0 _ _ _ _)
      | (with_reducible exact ih1 _ _ _)
      | (with_reducible exact ih2 _ _ _ _)
      | (with_reducible exact ih3 _ _ _ _ _)
      | (with_reducible exact ih4 _ _ _ _ _)
      | (with_reducible exact ih5 _ _ _ _ _ _ _ _)
      | (with_reducible exact spec_l01Split.mono _ _ _)
      | (with_reducible exact spec_l01Value.mono _ _)
      | (with_reducible exact spec_l03Text.mono _ _)
      | (with_reducible exact LeO.refl _)
      | (with_reducible exact LeO.none _)
      | (with_reducible refine LeO.ite ?_ ?_)
      | (with_reducible refine LeO.bind ?_ (fun _ => ?_))
      | exact ih0 _ _ _ _
      | exact ih1 _ _ _
      | exact ih2 _ _ _ _
      | exact ih3 _ _ _ _ _
      | exact ih4 _ _ _ _ _
      | exact ih5 _ _ _ _ _ _ _ _
      | exact spec_l01Split.mono _ _ _
      | exact spec_l01Value.mono _ _
      | exact spec_l03Text.mono _ _
      | exact LeO.none _
      | refine LeO.ite ?_ ?_
      | refine LeO.bind ?_ (fun _ => ?_)
    · intro y0 y1 y2
      unfold spec_ReadAngle.j1
      repeat' first
      | (with_reducible exact ih0 _ _ _ _)
      | (with_reducible exact ih1 _ _ _)
      | (with_reducible exact ih2 _ _ _ _)
      | (with_reducible exact ih3 _ _ _ _ _)
      | (with_reducible exact ih4 _ _ _ _ _)
      | (with_reducible exact ih5 _ _ _ _ _ _ _ _)
      | (with_reducible exact spec_l01Split.mono _ _ _)
      | (with_reducible exact spec_l01Value.mono _ _)
      | (with_reducible exact spec_l03Text.mono _ _)
      | (with_reducible exact LeO.refl _)
      | (with_reducible exact LeO.none _)
      | (with_reducible refine LeO.ite ?_ ?_)
      | (with_reducible refine LeO.bind ?_ (fun _ => ?_))
      | exact ih0 _ _ _ _
      | exact ih1 _ _ _
      | exact ih2 _ _ _ _
      | exact ih3 _ _ _ _ _
      | exact ih4 _ _ _ _ _
      | exact ih5 _ _ _ _ _ _ _ _
      | exact spec_l01Split.mono _ _ _
      | exact spec_l01Value.mono _ _
      | exact spec_l03Text.mono _ _
      | exact LeO.none _
      | refine LeO.ite ?_ ?_
      | refine LeO.bind ?_ (fun _ => ?_)
    · intro y0 y1 y2 y3
      unfold spec_ReadAngle.j2
      repeat' first
      | (with_reducible exact ih0 _ _ _ _)
      | (with_reducible exact ih1 _ _ _)
      | (with_reducible exact ih2 _ _ _ _)
      | (with_reducible exact ih3 _ _ _ _ _)
      | (with_reducible exact ih4 _ _ _ _ _)
      | (with_reducible exact ih5 _ _ _ _ _ _ _ _)
      | (with_reducible exact spec_l01Split.mono _ _ _)
      | (with_reducible exact spec_l01Value.mono _ _)
      | (with_reducible exact spec_l03Text.mono _ _)
      | (with_reducible exact LeO.refl _)
      | (with_reducible exact LeO.none _)
      | (with_reducible refine LeO.ite ?_ ?_)
      | (with_reducible refine LeO.bind ?_ (fun _ => ?_))
      | exact ih0 _ _ _ _
      | exact ih1 _ _ _
      | exact ih2 _ _ _ _
      | exact ih3 _ _ _ _ _
      | exact ih4 _ _ _ _ _
      | exact ih5 _ _ _ _ _ _ _ _
      | exact spec_l01Split.mono _ _ _
      | exact spec_l01Value.mono _ _
      | exact spec_l03Text.mono _ _
      | exact LeO.none _
      | refine LeO.ite ?_ ?_
      | refine LeO.bind ?_ (fun _ => ?_)
    · intro y0 y1 y2 y3 y4
      unfold spec_ReadAngle.j3
      repeat' first
      | (with_reducible exact ih0 _ _ _ _)
      | (with_reducible exact ih1 _ _ _)
      | (with_reducible exact ih2 _ _ _ _)
      | (with_reducible exact ih3 _ _ _ _ _)
      | (with_reducible exact ih4 _ _ _ _ _)
      | (with_reducible exact ih5 _ _ _ _ _ _ _ _)
      | (with_reducible exact spec_l01Split.mono _ _ _)
      | (with_reducible exact spec_l01Value.mono _ _)
      | (with_reducible exact spec_l03Text.mono _ _)
      | (with_reducible exact LeO.refl _)
      | (with_reducible exact LeO.none _)
      | (with_reducible refine LeO.ite ?_ ?_)
      | (with_reducible refine LeO.bind ?_ (fun _ => ?_))
      | exact ih0 _ _ _ _
      | exact ih1 _ _ _
      | exact ih2 _ _ _ _
      | exact ih3 _ _ _ _ _
      | exact ih4 _ _ _ _ _
      | exact ih5 _ _ _ _ _ _ _ _
      | exact spec_l01Split.mono _ _ _
      | exact spec_l01Value.mono _ _
      | exact spec_l03Text.mono _ _
      | exact LeO.none _
      | refine LeO.ite ?_ ?_
      | refine LeO.bind ?_ (fun _ => ?_)
    · intro y0 y1 y2 y3 y4
      unfold spec_ReadAngle.l0
      repeat' first
      | (with_reducible exact ih0 _ _ _ _)
      | (with_reducible exact ih1 _ _ _)
      | (with_reducible exact ih2 _ _ _ _)
      | (with_reducible exact ih3 _ _ _ _ _)
      | (with_reducible exact ih4 _ _ _ _ _)
      | (with_reducible exact ih5 _ _ _ _ _ _ _ _)
      | (with_reducible exact spec_l01Split.mono _ _ _)
      | (with_reducible exact spec_l01Value.mono _ _)
      | (with_reducible exact spec_l03Text.mono _ _)
      | (with_reducible exact LeO.refl _)
      | (with_reducible exact LeO.none _)
      | (with_reducible refine LeO.ite ?_ ?_)
      | (with_reducible refine LeO.bind ?_ (fun _ => ?_))
      | exact ih0 _ _ _ _
      | exact ih1 _ _ _
      | exact ih2 _ _ _ _
      | exact ih3 _ _ _ _ _
      | exact ih4 _ _ _ _ _
      | exact ih5 _ _ _ _ _ _ _ _
      | exact spec_l01Split.mono _ _ _
      | exact spec_l01Value.mono _ _
      | exact spec_l03Text.mono _ _
      | exact LeO.none _
      | refine LeO.ite ?_ ?_
      | refine LeO.bind ?_ (fun _ => ?_)
    · intro y0 y1 y2 y3 y4 y5 y6 y7
      unfold spec_ReadAngle.j5
      repeat' first
      | (with_reducible exact ih0 _ _ _ _)
      | (with_reducible exact ih1 _ _ _)
      | (with_reducible exact ih2 _ _ _ _)
      | (with_reducible exact ih3 _ _ _ _ _)
      | (with_reducible exact ih4 _ _ _ _ _)
      | (with_reducible exact ih5 _ _ _ _ _ _ _ _)
      | (with_reducible exact spec_l01Split.mono _ _ _)
      | (with_reducible exact spec_l01Value.mono _ _)
      | (with_reducible exact spec_l03Text.mono _ _)
      | (with_reducible exact LeO.refl _)
      | (with_reducible exact LeO.none _)
      | (with_reducible refine LeO.ite ?_ ?_)
      | (with_reducible refine LeO.bind ?_ (fun _ => ?_))
      | exact ih0 _ _ _ _
      | exact ih1 _ _ _
      | exact ih2 _ _ _ _
      | exact ih3 _ _ _ _ _
      | exact ih4 _ _ _ _ _
      | exact ih5 _ _ _ _ _ _ _ _
      | exact spec_l01Split.mono _ _ _
      | exact spec_l01Value.mono _ _
      | exact spec_l03Text.mono _ _
      | exact LeO.none _
      | refine LeO.ite ?_ ?_
      | refine LeO.bind ?_ (fun _ => ?_)
theorem spec_ReadAngle.mono : ∀ a0 k, LeO (spec_ReadAngle.f k a0) (spec_ReadAngle.f (k + 1) a0) := by
  intro a0 k
  obtain ⟨ih0, ih1, ih2, ih3, ih4, ih5⟩ := spec_ReadAngle.mono_l k
  unfold spec_ReadAngle.f
  repeat' first
      | (with_reducible exact ih0 _ _ _ _)
      | (with_reducible exact ih1 _ _ _)
      | (with_reducible exact ih2 _ _ _ _)
      | (with_reducible exact ih3 _ _ _ _ _)
      | (with_reducible exact ih4 _ _ _ _ _)
      | (with_reducible exact ih5 _ _ _ _ _ _ _ _)
      | (with_reducible exact spec_l01Split.mono _ _ _)
      | (with_reducible exact spec_l01Value.mono _ _)
      | (with_reducible exact spec_l03Text.mono _ _)
      | (with_reducible exact LeO.refl _)
      | (with_reducible exact LeO.none _)
      | (with_reducible refine LeO.ite ?_ ?_)
      | (with_reducible refine LeO.bind ?_ (fun _ => ?_))
      | exact ih0 _ _ _ _
      | exact ih1 _ _ _
      | exact ih2 _ _ _ _
      | exact ih3 _ _ _ _ _
      | exact ih4 _ _ _ _ _
      | exact ih5 _ _ _ _ _ _ _ _
      | exact spec_l01Split.mono _ _ _
      | exact spec_l01Value.mono _ _
      | exact spec_l03Text.mono _ _
      | exact LeO.none _
      | refine LeO.ite ?_ ?_
      | refine LeO.bind ?_ (fun _ => ?_)
set_option maxHeartbeats 8000000 in
set_option maxRecDepth 100000 in
theorem spec_ReadAngle.calls (k : Nat) (a0 : ByteArray) (r1 : Int) (r2 : Int) (w : World) (h : spec_ReadAngle.f k a0 = some (r1, r2)) :
    Calls Tryd.prog 32 #[.string a0] w fun e w' => e = .returned (.tuple #[.int .i64 r1, .int .i64 r2]) ∧ Below w.heap.size w w' := by
  have HB := Aside0.mk (Below.refl w.heap.size w)
  have H : (if (a0.size : Int) > 0 then (if 0 < (a0.size : Int) then (spec_ReadAngle.j0 k a0 a0 1 ((bt a0 0) == 45)) else (none)) else (spec_ReadAngle.j0 k a0 a0 1 false)) = some (r1, r2) := h
  clear h
  have HC2 := Aside0.mk H
  clear H
  go_enter Tryd.func32, Tryd.ntmps32
  go_upto_region 2 with (fail)
  repeat (go_quiet (fail); go_upto_region 2 with (fail))
  go_cut [22] (fun v22 wc => ∃ (kq : Nat) (x22_1 : Bool), v22 = .bool x22_1 ∧ Aside0 (spec_ReadAngle.j0 kq a0 a0 1 x22_1 = some (r1, r2)) ∧ Aside0 (kq ≤ k) ∧ Aside0 (Below w.heap.size w wc))
  case first =>
    have H := HC2.out
    clear HC2
    by_cases c3 : (a0.size : Int) > 0
    · rw [if_pos c3] at H
      have c3b0 : decide (0 < (a0.size : Int)) = true := decide_eq_true c3
      have c3b1 : decide (0 < a0.size) = true := decide_eq_true (by omega)
      clear c3
      (first | rw [c3b0] | (simp only [i64_w, i32_w]; rw [c3b0]) | skip)
      by_cases c4 : 0 < (a0.size : Int)
      · rw [if_pos c4] at H
        have c4b0 : decide (0 < (a0.size : Int)) = true := decide_eq_true c4
        have c4b1 : decide (0 < a0.size) = true := decide_eq_true (by omega)
        clear c4
        have H' := Aside0.mk H
        clear H
        have p5 : 0 ≤ (0 : Int) := (by omega)
        have q5 : 0 < a0.size := (by have : (0 : Int) < (a0.size : Int) := of_decide_eq_true (by first | (with_reducible assumption) | assumption); omega)
        have hx5 : ∀ h : 0 < a0.size, ((a0[0]'h).toNat : Int) = bt a0 0 := bt_at a0 0
        clear p5
        have qi5 : (0 < (a0.size : Int)) = True := eq_true (of_decide_eq_true (by first | (with_reducible assumption) | assumption))
        replace q5 := eq_true q5
        go_wp2
        repeat (go_quiet (fail); try go_wp2)
        go_meet
        case rel => exact ⟨_, (((bt a0 0) == 45)), (by first | rfl | (simp; done) | (simp [*]; done)), H', ⟨by first | omega | exact Nat.le_refl _⟩, ⟨by repeat (first | (with_reducible first | exact HB.out | apply below_alloc | apply pw_below_drewN | apply below_drew1) | exact HB.out)⟩⟩
      · rw [if_neg c4] at H
        exact absurd H (by simp)
    · rw [if_neg c3] at H
      have c3b0 : decide (0 < (a0.size : Int)) = false := decide_eq_false c3
      have c3b1 : decide (0 < a0.size) = false := decide_eq_false (by omega)
      clear c3
      (first | rw [c3b0] | (simp only [i64_w, i32_w]; rw [c3b0]) | skip)
      have H' := Aside0.mk H
      clear H
      go_wp2
      repeat (go_quiet (fail); try go_wp2)
      go_meet
      case rel => exact ⟨_, (false), (by first | rfl | (simp; done) | (simp [*]; done)), H', ⟨by first | omega | exact Nat.le_refl _⟩, ⟨by repeat (first | (with_reducible first | exact HB.out | apply below_alloc | apply pw_below_drewN | apply below_drew1) | exact HB.out)⟩⟩
  case rest =>
    clear HC2
    try clear p2
    try clear c3
    try clear c3b0
    try clear c3b1
    try clear c4
    try clear c4b0
    try clear c4b1
    try clear p5
    try clear q5
    try clear hx5
    try clear qi5
    try clear p5
    try clear q5
    obtain ⟨kq, x22_1, rfl, HA, HJ1, HB⟩ := hcut
    cases kq with
    | zero => exact absurd HA.out (by simp [spec_ReadAngle.j0])
    | succ kj1 =>
      have H := HA.out
      clear HA
      simp only [spec_ReadAngle.j0] at H
      have HC6 := Aside0.mk H
      clear H
      go_upto_if 22 with (fail)
      repeat (go_quiet (fail); go_upto_if 22 with (fail))
      go_cut [4, 5] (fun v4 v5 wc => ∃ (kq : Nat) (x4_5 : ByteArray) (x5_5 : Int), v4 = .string x4_5 ∧ v5 = .int .i64 x5_5 ∧ Aside0 (spec_ReadAngle.j1 kq a0 x4_5 x5_5 = some (r1, r2)) ∧ Aside0 (kq ≤ kj1) ∧ Aside0 (Below w.heap.size w wc))
      case first =>
        have H := HC6.out
        clear HC6
        by_cases c7 : x22_1 = true
        · subst c7
          have H1 : (if 1 ≤ (a0.size : Int) then (spec_ReadAngle.j1 kj1 a0 (a0.extract 1 a0.size) (-1)) else (none)) = some (r1, r2) := by rw [if_pos rfl] at H; exact H
          clear H
          have H := H1
          clear H1
          by_cases c8 : 1 ≤ (a0.size : Int)
          · rw [if_pos c8] at H
            have c8b0 := eq_true c8
            have c8b1 : decide (1 ≤ (a0.size : Int)) = true := decide_eq_true c8
            clear c8
            have H' := Aside0.mk H
            clear H
            go_wp2
            repeat (go_quiet (fail); try go_wp2)
            go_meet
            case rel => exact ⟨_, (a0.extract 1 a0.size), ((-1)), (by first | rfl | (simp; done) | (simp [*]; done)), (by first | rfl | (simp; done) | (simp [*]; done)), H', ⟨by have := HJ1.out; first | omega | exact Nat.le_refl _⟩, ⟨by repeat (first | (with_reducible first | exact HB.out | apply below_alloc | apply pw_below_drewN | apply below_drew1) | exact HB.out)⟩⟩
          · rw [if_neg c8] at H
            exact absurd H (by simp)
        · replace c7 := Bool.eq_false_iff.mpr c7
          subst c7
          have H1 : (spec_ReadAngle.j1 kj1 a0 a0 1) = some (r1, r2) := by rw [if_neg (show ¬ (false = true) by decide)] at H; exact H
          clear H
          have H := H1
          clear H1
          have H' := Aside0.mk H
          clear H
          go_wp2
          repeat (go_quiet (fail); try go_wp2)
          go_meet
          case rel => exact ⟨_, (a0), (1), (by first | rfl | (simp; done) | (simp [*]; done)), (by first | rfl | (simp; done) | (simp [*]; done)), H', ⟨by have := HJ1.out; first | omega | exact Nat.le_refl _⟩, ⟨by repeat (first | (with_reducible first | exact HB.out | apply below_alloc | apply pw_below_drewN | apply below_drew1) | exact HB.out)⟩⟩
      case rest =>
        clear HC6
        try clear p2
        try clear c3
        try clear c3b0
        try clear c3b1
        try clear c4
        try clear c4b0
        try clear c4b1
        try clear p5
        try clear q5
        try clear hx5
        try clear qi5
        try clear c7
        try clear c8
        try clear c8b0
        try clear c8b1
        try clear p2
        try clear p5
        try clear q5
        obtain ⟨kq, x4_5, x5_5, rfl, rfl, HA, HJ5, HB⟩ := hcut
        cases kq with
        | zero => exact absurd HA.out (by simp [spec_ReadAngle.j1])
        | succ kj5 =>
          have H := HA.out
          clear HA
          simp only [spec_ReadAngle.j1] at H
          replace H := Option.bind_eq_some_iff.mp H
          obtain ⟨t267, A90, H⟩ := H
          replace H : (if (t267.length : Int) = 2 then (if 1 < (t267.length : Int) then (spec_ReadAngle.j2 kj5 a0 x5_5 t267 (((rdOf ByteArray.empty t267 1).size : Int) != 6)) else (none)) else (spec_ReadAngle.j2 kj5 a0 x5_5 t267 true)) = some (r1, r2) := H
          have A9 := Aside0.mk A90
          clear A90
          have HC10 := Aside0.mk H
          clear H
          go_upto_region 6 with (first | (go_at_call 67; (with_reducible refine (spec_l01Split.calls kj5 x4_5 100 t267 _ A9.out).mono ?_); rintro e w11 ⟨v268, rfl, ho0, hb⟩; have n0_ := Aside0.mk (Kd.R_lower ho0 (below_size (by repeat (first | (with_reducible first | exact HB.out | apply below_alloc | apply pw_below_drewN | apply below_drew1) | exact HB.out)))); have n1_ := Aside0.mk (below_step (by repeat (first | (with_reducible first | exact HB.out | apply below_alloc | apply pw_below_drewN | apply below_drew1) | exact HB.out)) hb); clear HB; have HO269 := n0_; have HB := n1_; clear n0_ n1_; (try clear hb); (try clear hb2); (try clear hk); (try clear hi); (try clear ho0)))
          repeat (go_quiet (first | (go_at_call 67; (with_reducible refine (spec_l01Split.calls kj5 x4_5 100 t267 _ A9.out).mono ?_); rintro e w11 ⟨v268, rfl, ho0, hb⟩; have n0_ := Aside0.mk (Kd.R_lower ho0 (below_size (by repeat (first | (with_reducible first | exact HB.out | apply below_alloc | apply pw_below_drewN | apply below_drew1) | exact HB.out)))); have n1_ := Aside0.mk (below_step (by repeat (first | (with_reducible first | exact HB.out | apply below_alloc | apply pw_below_drewN | apply below_drew1) | exact HB.out)) hb); clear HB; have HO269 := n0_; have HB := n1_; clear n0_ n1_; (try clear hb); (try clear hb2); (try clear hk); (try clear hi); (try clear ho0))); go_upto_region 6 with (first | (go_at_call 67; (with_reducible refine (spec_l01Split.calls kj5 x4_5 100 t267 _ A9.out).mono ?_); rintro e w11 ⟨v268, rfl, ho0, hb⟩; have n0_ := Aside0.mk (Kd.R_lower ho0 (below_size (by repeat (first | (with_reducible first | exact HB.out | apply below_alloc | apply pw_below_drewN | apply below_drew1) | exact HB.out)))); have n1_ := Aside0.mk (below_step (by repeat (first | (with_reducible first | exact HB.out | apply below_alloc | apply pw_below_drewN | apply below_drew1) | exact HB.out)) hb); clear HB; have HO269 := n0_; have HB := n1_; clear n0_ n1_; (try clear hb); (try clear hb2); (try clear hk); (try clear hi); (try clear ho0))))
          (try simp only [Act.put, List.setIfInBounds_toArray, List.set_cons_zero, List.set_cons_succ])
          go_cut [36] (fun v36 wc => ∃ (kq : Nat) (x36_9 : Bool), v36 = .bool x36_9 ∧ Aside0 (spec_ReadAngle.j2 kq a0 x5_5 t267 x36_9 = some (r1, r2)) ∧ Aside0 (kq ≤ kj5) ∧ Aside0 (Kd.R Kd.string 9 wc w.heap.size (fun _ => True) v268 t267) ∧ Aside0 (Below w.heap.size w wc))
          case first =>
            have H := HC10.out
            clear HC10
            by_cases c12 : (t267.length : Int) = 2
            · rw [if_pos c12] at H
              have c12b0 : ((t267.length : Int) == 2) = true := beq_iff_eq.mpr c12
              have c12b1 : ((t267.length : Int) != 2) = false := bne_eq_false_iff_eq.mpr c12
              clear c12
              (first | rw [c12b0] | (simp only [i64_w, i32_w]; rw [c12b0]) | skip)
              by_cases c13 : 1 < (t267.length : Int)
              · rw [if_pos c13] at H
                have c13b0 : decide (1 < (t267.length : Int)) = true := decide_eq_true c13
                have c13b1 : decide (1 < t267.length) = true := decide_eq_true (by omega)
                clear c13
                have H' := Aside0.mk H
                clear H
                obtain ⟨Ao14, co14, eo14⟩ := Kd.R_slice HO269.out
                subst eo14
                have p270 : 0 ≤ (1 : Int) := (by omega)
                have q270 : 1 < (t267.length : Int) := of_decide_eq_true (by first | (with_reducible assumption) | assumption)
                obtain ⟨ad270, e270, hx270_0⟩ := Kd.at_string (Kd.R_reads' HO269.out).2.2 1 p270 q270
                cases e270
                (try simp only [show (1 : Int).toNat = 1 from rfl, Nat.reduceMul, Nat.reduceEqDiff, Go.Addr.add, ↓reduceIte] at hx270_0)
                have qi270 : (1 < t267.length) = True := eq_true (by omega)
                (try rw [show ((1 : Int)).toNat = 1 from rfl] at hx270_0)
                replace p270 := eq_true p270
                replace q270 := eq_true q270
                go_wp2
                repeat (go_quiet (fail); try go_wp2)
                go_meet
                case rel => exact ⟨_, ((((rdOf ByteArray.empty t267 1).size : Int) != 6)), (by first | rfl | (simp; done) | (simp [*]; done)), H', ⟨by have := HJ1.out; have := HJ5.out; first | omega | exact Nat.le_refl _⟩, ⟨by (with_reducible repeat (first | apply Kd.R_alloc | apply Kd.R_drewN | apply Kd.R_drew)); exact HO269.out⟩, ⟨by repeat (first | (with_reducible first | exact HB.out | apply below_alloc | apply pw_below_drewN | apply below_drew1) | exact HB.out)⟩⟩
              · rw [if_neg c13] at H
                exact absurd H (by simp)
            · rw [if_neg c12] at H
              have c12b0 : ((t267.length : Int) == 2) = false := beq_eq_false_iff_ne.mpr c12
              have c12b1 : ((t267.length : Int) != 2) = true := bne_iff_ne.mpr c12
              (first | rw [c12b0] | (simp only [i64_w, i32_w]; rw [c12b0]) | skip)
              have H' := Aside0.mk H
              clear H
              obtain ⟨Ao15, co15, eo15⟩ := Kd.R_slice HO269.out
              subst eo15
              go_wp2
              repeat (go_quiet (fail); try go_wp2)
              go_meet
              case rel => exact ⟨_, (true), (by first | rfl | (simp; done) | (simp [*]; done)), H', ⟨by have := HJ1.out; have := HJ5.out; first | omega | exact Nat.le_refl _⟩, ⟨by (with_reducible repeat (first | apply Kd.R_alloc | apply Kd.R_drewN | apply Kd.R_drew)); exact HO269.out⟩, ⟨by repeat (first | (with_reducible first | exact HB.out | apply below_alloc | apply pw_below_drewN | apply below_drew1) | exact HB.out)⟩⟩
          case rest =>
            clear HC10
            try clear c1
            try clear p2
            try clear q2
            try clear hx2
            try clear qi2
            try clear c3
            try clear c3b0
            try clear c3b1
            try clear c4
            try clear c4b0
            try clear c4b1
            try clear p5
            try clear q5
            try clear hx5
            try clear qi5
            try clear c7
            try clear c8
            try clear c8b0
            try clear c8b1
            try clear c12
            try clear c12b0
            try clear c12b1
            try clear c13
            try clear c13b0
            try clear c13b1
            try clear hx270_0
            try clear p2
            try clear p270
            try clear p5
            try clear q270
            try clear q5
            obtain ⟨kq, x36_9, rfl, HA, HJ9, HO_6, HB⟩ := hcut
            cases kq with
            | zero => exact absurd HA.out (by simp [spec_ReadAngle.j2])
            | succ kj9 =>
              have H := HA.out
              clear HA
              simp only [spec_ReadAngle.j2] at H
              by_cases c16 : x36_9 = true
              · subst c16
                have H1 : (some (0, 6)) = some (r1, r2) := by rw [if_pos rfl] at H; exact H
                clear H
                have H := H1
                clear H1
                simp only [Option.some.injEq, Prod.mk.injEq] at H
                obtain ⟨rfl, rfl⟩ := H
                go_wp2
                repeat (go_quiet (fail); try go_wp2)
                go_ret2
                exact ⟨by first | rfl | (simp [errW_none, errW_some] <;> rfl) | (simp [*, errW_none, errW_some] <;> rfl), by repeat (first | (with_reducible first | exact HB.out | apply below_alloc | apply pw_below_drewN | apply below_drew1) | exact HB.out)⟩
              · replace c16 := Bool.eq_false_iff.mpr c16
                subst c16
                have H1 : (if 0 < (t267.length : Int) then ((spec_l01Value.f kj9 (rdOf ByteArray.empty t267 0)).bind fun bt272 => (if bt272.2 = true then (spec_ReadAngle.j3 kj9 a0 x5_5 t267 bt272.1 (decide (bt272.1 > 360))) else (spec_ReadAngle.j3 kj9 a0 x5_5 t267 bt272.1 true))) else (none)) = some (r1, r2) := by rw [if_neg (show ¬ (false = true) by decide)] at H; exact H
                clear H
                have H := H1
                clear H1
                by_cases c17 : 0 < (t267.length : Int)
                · rw [if_pos c17] at H
                  have c17b0 : decide (0 < (t267.length : Int)) = true := decide_eq_true c17
                  have c17b1 : decide (0 < t267.length) = true := decide_eq_true (by omega)
                  clear c17
                  replace H := Option.bind_eq_some_iff.mp H
                  obtain ⟨⟨t272, t273⟩, A180, H⟩ := H
                  replace H : (if t273 = true then (spec_ReadAngle.j3 kj9 a0 x5_5 t267 t272 (decide (t272 > 360))) else (spec_ReadAngle.j3 kj9 a0 x5_5 t267 t272 true)) = some (r1, r2) := H
                  have A18 := Aside0.mk A180
                  clear A180
                  have HC19 := Aside0.mk H
                  clear H
                  obtain ⟨Ao20, co20, eo20⟩ := Kd.R_slice HO_6.out
                  subst eo20
                  have p271 : 0 ≤ (0 : Int) := (by omega)
                  have q271 : 0 < (t267.length : Int) := of_decide_eq_true (by first | (with_reducible assumption) | assumption)
                  obtain ⟨ad271, e271, hx271_0⟩ := Kd.at_string (Kd.R_reads' HO_6.out).2.2 0 p271 q271
                  cases e271
                  have qi271 : (0 < t267.length) = True := eq_true (by omega)
                  (try rw [show ((0 : Int)).toNat = 0 from rfl] at hx271_0)
                  (try rw [Addr.add_zero'] at hx271_0)
                  replace p271 := eq_true p271
                  replace q271 := eq_true q271
                  go_upto_region 9 with (first | (go_at_call 74; (with_reducible refine (spec_l01Value.calls kj9 (rdOf ByteArray.empty t267 0) t272 t273 _ A18.out).mono ?_); rintro e w21 ⟨rfl, hb⟩; have n0_ := Aside0.mk (Kd.R_below (by (with_reducible repeat (first | apply Kd.R_alloc | apply Kd.R_drewN | apply Kd.R_drew)); exact HO_6.out) hb); have n1_ := Aside0.mk (below_step (by repeat (first | (with_reducible first | exact HB.out | apply below_alloc | apply pw_below_drewN | apply below_drew1) | exact HB.out)) hb); clear HO_6; clear HB; have HO_6 := n0_; have HB := n1_; clear n0_ n1_; (try clear hb); (try clear hb2); (try clear hk); (try clear hi)))
                  repeat (go_quiet (first | (go_at_call 74; (with_reducible refine (spec_l01Value.calls kj9 (rdOf ByteArray.empty t267 0) t272 t273 _ A18.out).mono ?_); rintro e w21 ⟨rfl, hb⟩; have n0_ := Aside0.mk (Kd.R_below (by (with_reducible repeat (first | apply Kd.R_alloc | apply Kd.R_drewN | apply Kd.R_drew)); exact HO_6.out) hb); have n1_ := Aside0.mk (below_step (by repeat (first | (with_reducible first | exact HB.out | apply below_alloc | apply pw_below_drewN | apply below_drew1) | exact HB.out)) hb); clear HO_6; clear HB; have HO_6 := n0_; have HB := n1_; clear n0_ n1_; (try clear hb); (try clear hb2); (try clear hk); (try clear hi))); go_upto_region 9 with (first | (go_at_call 74; (with_reducible refine (spec_l01Value.calls kj9 (rdOf ByteArray.empty t267 0) t272 t273 _ A18.out).mono ?_); rintro e w21 ⟨rfl, hb⟩; have n0_ := Aside0.mk (Kd.R_below (by (with_reducible repeat (first | apply Kd.R_alloc | apply Kd.R_drewN | apply Kd.R_drew)); exact HO_6.out) hb); have n1_ := Aside0.mk (below_step (by repeat (first | (with_reducible first | exact HB.out | apply below_alloc | apply pw_below_drewN | apply below_drew1) | exact HB.out)) hb); clear HO_6; clear HB; have HO_6 := n0_; have HB := n1_; clear n0_ n1_; (try clear hb); (try clear hb2); (try clear hk); (try clear hi))))
                  (try simp only [Act.put, List.setIfInBounds_toArray, List.set_cons_zero, List.set_cons_succ])
                  go_cut [49] (fun v49 wc => ∃ (kq : Nat) (x49_18 : Bool), v49 = .bool x49_18 ∧ Aside0 (spec_ReadAngle.j3 kq a0 x5_5 t267 t272 x49_18 = some (r1, r2)) ∧ Aside0 (kq ≤ kj9) ∧ Aside0 (Kd.R Kd.string 9 wc w.heap.size (fun _ => True) (.slice (some ad271) t267.length co20) t267) ∧ Aside0 (Below w.heap.size w wc))
                  case first =>
                    have H := HC19.out
                    clear HC19
                    by_cases c22 : t273 = true
                    · subst c22
                      have H1 : (spec_ReadAngle.j3 kj9 a0 x5_5 t267 t272 (decide (t272 > 360))) = some (r1, r2) := by rw [if_pos rfl] at H; exact H
                      clear H
                      have H := H1
                      clear H1
                      have H' := Aside0.mk H
                      clear H
                      go_wp2
                      repeat (go_quiet (fail); try go_wp2)
                      go_meet
                      case rel => exact ⟨_, (decide (t272 > 360)), (by first | rfl | (simp; done) | (simp [*]; done)), H', ⟨by have := HJ1.out; have := HJ5.out; have := HJ9.out; first | omega | exact Nat.le_refl _⟩, ⟨by (with_reducible repeat (first | apply Kd.R_alloc | apply Kd.R_drewN | apply Kd.R_drew)); exact HO_6.out⟩, ⟨by repeat (first | (with_reducible first | exact HB.out | apply below_alloc | apply pw_below_drewN | apply below_drew1) | exact HB.out)⟩⟩
                    · replace c22 := Bool.eq_false_iff.mpr c22
                      subst c22
                      have H1 : (spec_ReadAngle.j3 kj9 a0 x5_5 t267 t272 true) = some (r1, r2) := by rw [if_neg (show ¬ (false = true) by decide)] at H; exact H
                      clear H
                      have H := H1
                      clear H1
                      have H' := Aside0.mk H
                      clear H
                      go_wp2
                      repeat (go_quiet (fail); try go_wp2)
                      go_meet
                      case rel => exact ⟨_, (true), (by first | rfl | (simp; done) | (simp [*]; done)), H', ⟨by have := HJ1.out; have := HJ5.out; have := HJ9.out; first | omega | exact Nat.le_refl _⟩, ⟨by (with_reducible repeat (first | apply Kd.R_alloc | apply Kd.R_drewN | apply Kd.R_drew)); exact HO_6.out⟩, ⟨by repeat (first | (with_reducible first | exact HB.out | apply below_alloc | apply pw_below_drewN | apply below_drew1) | exact HB.out)⟩⟩
                  case rest =>
                    clear HC19
                    try clear c1
                    try clear c2
                    try clear p2
                    try clear q2
                    try clear hx2
                    try clear qi2
                    try clear c3
                    try clear c3b0
                    try clear c3b1
                    try clear c4
                    try clear c4b0
                    try clear c4b1
                    try clear p5
                    try clear q5
                    try clear hx5
                    try clear qi5
                    try clear c7
                    try clear c8
                    try clear c8b0
                    try clear c8b1
                    try clear c12
                    try clear c12b0
                    try clear c12b1
                    try clear c13
                    try clear c13b0
                    try clear c13b1
                    try clear c16
                    try clear c17
                    try clear c17b0
                    try clear c17b1
                    try clear c22
                    try clear hx270_0
                    try clear hx271_0
                    try clear p2
                    try clear p270
                    try clear p271
                    try clear p5
                    try clear q2
                    try clear q270
                    try clear q271
                    try clear q5
                    obtain ⟨kq, x49_18, rfl, HA, HJ18, HO_6, HB⟩ := hcut
                    cases kq with
                    | zero => exact absurd HA.out (by simp [spec_ReadAngle.j3])
                    | succ kj18 =>
                      have H := HA.out
                      clear HA
                      simp only [spec_ReadAngle.j3] at H
                      by_cases c23 : x49_18 = true
                      · subst c23
                        have H1 : (some (0, 6)) = some (r1, r2) := by rw [if_pos rfl] at H; exact H
                        clear H
                        have H := H1
                        clear H1
                        simp only [Option.some.injEq, Prod.mk.injEq] at H
                        obtain ⟨rfl, rfl⟩ := H
                        go_wp2
                        repeat (go_quiet (fail); try go_wp2)
                        go_ret2
                        exact ⟨by first | rfl | (simp [errW_none, errW_some] <;> rfl) | (simp [*, errW_none, errW_some] <;> rfl), by repeat (first | (with_reducible first | exact HB.out | apply below_alloc | apply pw_below_drewN | apply below_drew1) | exact HB.out)⟩
                      · replace c23 := Bool.eq_false_iff.mpr c23
                        subst c23
                        have H1 : (spec_ReadAngle.l0 kj18 a0 x5_5 t267 (wrap64 (t272 * 3600)) 0) = some (r1, r2) := by rw [if_neg (show ¬ (false = true) by decide)] at H; exact H
                        clear H
                        have H := H1
                        clear H1
                        have H' := Aside0.mk H
                        clear H
                        go_wp2
                        repeat (go_quiet (fail); try go_wp2)
                        go_loopg [9, 10] kj18 (fun kq v9 v10 w' => ∃ (x9_5 : Int) (x10_5 : Int), v9 = .int .i64 x9_5 ∧ v10 = .int .i64 x10_5 ∧ Aside0 (spec_ReadAngle.l0 kq a0 x5_5 t267 x9_5 x10_5 = some (r1, r2)) ∧ Aside0 (kq ≤ kj18) ∧ Aside0 (Kd.R Kd.string 9 w' w.heap.size (fun _ => True) (.slice (some ad271) t267.length co20) t267) ∧ Aside0 (Below w.heap.size w w'))
                        case atStart => exact ⟨(wrap64 (t272 * 3600)), (0), (by first | rfl | (simp; done) | (simp [*]; done)), (by first | rfl | (simp; done) | (simp [*]; done)), H', ⟨Nat.le_refl _⟩, ⟨by (with_reducible repeat (first | apply Kd.R_alloc | apply Kd.R_drewN | apply Kd.R_drew)); exact HO_6.out⟩, ⟨by repeat (first | (with_reducible first | exact HB.out | apply below_alloc | apply pw_below_drewN | apply below_drew1) | exact HB.out)⟩⟩
                        case round =>
                          clear H'
                          try clear c1
                          try clear c2
                          try clear p2
                          try clear q2
                          try clear hx2
                          try clear qi2
                          try clear c3
                          try clear c3b0
                          try clear c3b1
                          try clear c4
                          try clear c4b0
                          try clear c4b1
                          try clear p5
                          try clear q5
                          try clear hx5
                          try clear qi5
                          try clear p6
                          try clear c7
                          try clear c8
                          try clear c8b0
                          try clear c8b1
                          try clear c12
                          try clear c12b0
                          try clear c12b1
                          try clear c13
                          try clear c13b0
                          try clear c13b1
                          try clear c16
                          try clear c17
                          try clear c17b0
                          try clear c17b1
                          try clear c22
                          try clear c23
                          try clear hx270_0
                          try clear hx271_0
                          try clear p2
                          try clear p270
                          try clear p271
                          try clear p5
                          try clear q2
                          try clear q270
                          try clear q271
                          try clear q5
                          obtain ⟨x9_5, x10_5, rfl, rfl, HA, HK5, HO_6, HB⟩ := hrel
                          cases gk with
                          | zero => exact absurd HA.out (by simp [spec_ReadAngle.l0])
                          | succ k5 =>
                            have H := HA.out
                            clear HA
                            simp only [spec_ReadAngle.l0] at H
                            by_cases c24 : x10_5 < 2
                            · rw [if_pos c24] at H
                              have c24b0 : decide (x10_5 < 2) = true := decide_eq_true c24
                              clear c24
                              by_cases c25 : 1 < (t267.length : Int)
                              · rw [if_pos c25] at H
                                have c25b0 : decide (1 < (t267.length : Int)) = true := decide_eq_true c25
                                have c25b1 : decide (1 < t267.length) = true := decide_eq_true (by omega)
                                clear c25
                                obtain ⟨ji26, hji26⟩ : ∃ j_ : Int, (wrap64 (3 * x10_5)) = j_ := ⟨_, rfl⟩
                                replace H : (if 0 ≤ (ji26) then (if (ji26) < ((rdOf ByteArray.empty t267 1).size : Int) then (if 0 ≤ (wrap64 ((ji26) + 1)) then (if (wrap64 ((ji26) + 1)) < ((rdOf ByteArray.empty t267 1).size : Int) then (if (bt (rdOf ByteArray.empty t267 1) (ji26)) < 48 then (spec_ReadAngle.j5 k5 a0 x5_5 t267 x9_5 x10_5 (bt (rdOf ByteArray.empty t267 1) (ji26)) (bt (rdOf ByteArray.empty t267 1) (wrap64 ((ji26) + 1))) true) else (if (bt (rdOf ByteArray.empty t267 1) (ji26)) > 57 then (spec_ReadAngle.j5 k5 a0 x5_5 t267 x9_5 x10_5 (bt (rdOf ByteArray.empty t267 1) (ji26)) (bt (rdOf ByteArray.empty t267 1) (wrap64 ((ji26) + 1))) true) else (if (bt (rdOf ByteArray.empty t267 1) (wrap64 ((ji26) + 1))) < 48 then (spec_ReadAngle.j5 k5 a0 x5_5 t267 x9_5 x10_5 (bt (rdOf ByteArray.empty t267 1) (ji26)) (bt (rdOf ByteArray.empty t267 1) (wrap64 ((ji26) + 1))) true) else (spec_ReadAngle.j5 k5 a0 x5_5 t267 x9_5 x10_5 (bt (rdOf ByteArray.empty t267 1) (ji26)) (bt (rdOf ByteArray.empty t267 1) (wrap64 ((ji26) + 1))) (decide ((bt (rdOf ByteArray.empty t267 1) (wrap64 ((ji26) + 1))) > 57)))))) else (none)) else (none)) else (none)) else (none)) = some (r1, r2) := by first | (rw [hji26] at H; exact H) | (simp only [hji26] at H ⊢; exact H)
                                have hji26w : (IntKind.i64.wrap (3 * x10_5)) = ji26 := (i64_w _).trans hji26
                                by_cases c27 : 0 ≤ (ji26)
                                · rw [if_pos c27] at H
                                  have c27b0 : decide (0 ≤ (ji26)) = true := decide_eq_true c27
                                  clear c27
                                  by_cases c28 : (ji26) < ((rdOf ByteArray.empty t267 1).size : Int)
                                  · rw [if_pos c28] at H
                                    have c28b0 : decide ((ji26) < ((rdOf ByteArray.empty t267 1).size : Int)) = true := decide_eq_true c28
                                    clear c28
                                    obtain ⟨ji30, hji30⟩ : ∃ j_ : Int, (wrap64 ((ji26) + 1)) = j_ := ⟨_, rfl⟩
                                    replace H : (if 0 ≤ (ji30) then (if (ji30) < ((rdOf ByteArray.empty t267 1).size : Int) then (if (bt (rdOf ByteArray.empty t267 1) (ji26)) < 48 then (spec_ReadAngle.j5 k5 a0 x5_5 t267 x9_5 x10_5 (bt (rdOf ByteArray.empty t267 1) (ji26)) (bt (rdOf ByteArray.empty t267 1) (ji30)) true) else (if (bt (rdOf ByteArray.empty t267 1) (ji26)) > 57 then (spec_ReadAngle.j5 k5 a0 x5_5 t267 x9_5 x10_5 (bt (rdOf ByteArray.empty t267 1) (ji26)) (bt (rdOf ByteArray.empty t267 1) (ji30)) true) else (if (bt (rdOf ByteArray.empty t267 1) (ji30)) < 48 then (spec_ReadAngle.j5 k5 a0 x5_5 t267 x9_5 x10_5 (bt (rdOf ByteArray.empty t267 1) (ji26)) (bt (rdOf ByteArray.empty t267 1) (ji30)) true) else (spec_ReadAngle.j5 k5 a0 x5_5 t267 x9_5 x10_5 (bt (rdOf ByteArray.empty t267 1) (ji26)) (bt (rdOf ByteArray.empty t267 1) (ji30)) (decide ((bt (rdOf ByteArray.empty t267 1) (ji30)) > 57)))))) else (none)) else (none)) = some (r1, r2) := by first | (rw [hji30] at H; exact H) | (simp only [hji30] at H ⊢; exact H)
                                    have hji30w : (IntKind.i64.wrap ((ji26) + 1)) = ji30 := (i64_w _).trans hji30
                                    by_cases c31 : 0 ≤ (ji30)
                                    · rw [if_pos c31] at H
                                      have c31b0 : decide (0 ≤ (ji30)) = true := decide_eq_true c31
                                      clear c31
                                      by_cases c32 : (ji30) < ((rdOf ByteArray.empty t267 1).size : Int)
                                      · rw [if_pos c32] at H
                                        have c32b0 : decide ((ji30) < ((rdOf ByteArray.empty t267 1).size : Int)) = true := decide_eq_true c32
                                        clear c32
                                        have HC34 := Aside0.mk H
                                        clear H
                                        have p274 : 0 ≤ (1 : Int) := (by omega)
                                        have q274 : 1 < (t267.length : Int) := of_decide_eq_true (by first | (with_reducible assumption) | assumption)
                                        obtain ⟨ad274, e274, hx274_0⟩ := Kd.at_string (Kd.R_reads' HO_6.out).2.2 1 p274 q274
                                        obtain rfl : ad271 = ad274 := (by injection e274)
                                        (try simp only [show (1 : Int).toNat = 1 from rfl, Nat.reduceMul, Nat.reduceEqDiff, Go.Addr.add, ↓reduceIte] at hx274_0)
                                        have qi274 : (1 < t267.length) = True := eq_true (by omega)
                                        (try rw [show ((1 : Int)).toNat = 1 from rfl] at hx274_0)
                                        replace p274 := eq_true p274
                                        replace q274 := eq_true q274
                                        have p29 : 0 ≤ ((ji26) : Int) := of_decide_eq_true (by first | (with_reducible assumption) | assumption)
                                        have q29 : (ji26) < ((rdOf ByteArray.empty t267 1).size : Int) := of_decide_eq_true (by first | (with_reducible assumption) | assumption)
                                        have hx29 := bt_at (rdOf ByteArray.empty t267 1) (ji26)
                                        replace p29 := eq_true p29
                                        replace q29 := eq_true q29
                                        have p275 : 0 ≤ (1 : Int) := (by omega)
                                        have q275 : 1 < (t267.length : Int) := of_decide_eq_true (by first | (with_reducible assumption) | assumption)
                                        obtain ⟨ad275, e275, hx275_0⟩ := Kd.at_string (Kd.R_reads' HO_6.out).2.2 1 p275 q275
                                        obtain rfl : ad271 = ad275 := (by injection e275)
                                        (try simp only [show (1 : Int).toNat = 1 from rfl, Nat.reduceMul, Nat.reduceEqDiff, Go.Addr.add, ↓reduceIte] at hx275_0)
                                        have qi275 : (1 < t267.length) = True := eq_true (by omega)
                                        (try rw [show ((1 : Int)).toNat = 1 from rfl] at hx275_0)
                                        replace p275 := eq_true p275
                                        replace q275 := eq_true q275
                                        have p33 : 0 ≤ ((ji30) : Int) := of_decide_eq_true (by first | (with_reducible assumption) | assumption)
                                        have q33 : (ji30) < ((rdOf ByteArray.empty t267 1).size : Int) := of_decide_eq_true (by first | (with_reducible assumption) | assumption)
                                        have hx33 := bt_at (rdOf ByteArray.empty t267 1) (ji30)
                                        replace p33 := eq_true p33
                                        replace q33 := eq_true q33
                                        go_upto_region 16 with (fail)
                                        repeat (go_quiet (fail); go_upto_region 16 with (fail))
                                        go_cut [82] (fun v82 wc => ∃ (kq : Nat) (x82_33 : Bool), v82 = .bool x82_33 ∧ Aside0 (spec_ReadAngle.j5 kq a0 x5_5 t267 x9_5 x10_5 (bt (rdOf ByteArray.empty t267 1) (ji26)) (bt (rdOf ByteArray.empty t267 1) (ji30)) x82_33 = some (r1, r2)) ∧ Aside0 (kq ≤ k5) ∧ Aside0 (Kd.R Kd.string 9 wc w.heap.size (fun _ => True) (.slice (some ad271) t267.length co20) t267) ∧ Aside0 (Below w.heap.size w wc))
                                        case first =>
                                          have H := HC34.out
                                          clear HC34
                                          by_cases c35 : (bt (rdOf ByteArray.empty t267 1) (ji26)) < 48
                                          · rw [if_pos c35] at H
                                            have c35b0 : decide ((bt (rdOf ByteArray.empty t267 1) (ji26)) < 48) = true := decide_eq_true c35
                                            clear c35
                                            (first | rw [c35b0] | (simp only [i64_w, i32_w]; rw [c35b0]) | skip)
                                            have H' := Aside0.mk H
                                            clear H
                                            go_wp2
                                            repeat (go_quiet (fail); try go_wp2)
                                            go_meet
                                            case rel => exact ⟨_, (true), (by first | rfl | (simp; done) | (simp [*]; done)), H', ⟨by have := HJ1.out; have := HJ5.out; have := HJ9.out; have := HJ18.out; have := HK5.out; first | omega | exact Nat.le_refl _⟩, ⟨by (with_reducible repeat (first | apply Kd.R_alloc | apply Kd.R_drewN | apply Kd.R_drew)); exact HO_6.out⟩, ⟨by repeat (first | (with_reducible first | exact HB.out | apply below_alloc | apply pw_below_drewN | apply below_drew1) | exact HB.out)⟩⟩
                                          · rw [if_neg c35] at H
                                            have c35b0 : decide ((bt (rdOf ByteArray.empty t267 1) (ji26)) < 48) = false := decide_eq_false c35
                                            clear c35
                                            (first | rw [c35b0] | (simp only [i64_w, i32_w]; rw [c35b0]) | skip)
                                            by_cases c36 : (bt (rdOf ByteArray.empty t267 1) (ji26)) > 57
                                            · rw [if_pos c36] at H
                                              have c36b0 : decide (57 < (bt (rdOf ByteArray.empty t267 1) (ji26))) = true := decide_eq_true c36
                                              clear c36
                                              have H' := Aside0.mk H
                                              clear H
                                              go_wp2
                                              repeat (go_quiet (fail); try go_wp2)
                                              go_meet
                                              case rel => exact ⟨_, (true), (by first | rfl | (simp; done) | (simp [*]; done)), H', ⟨by have := HJ1.out; have := HJ5.out; have := HJ9.out; have := HJ18.out; have := HK5.out; first | omega | exact Nat.le_refl _⟩, ⟨by (with_reducible repeat (first | apply Kd.R_alloc | apply Kd.R_drewN | apply Kd.R_drew)); exact HO_6.out⟩, ⟨by repeat (first | (with_reducible first | exact HB.out | apply below_alloc | apply pw_below_drewN | apply below_drew1) | exact HB.out)⟩⟩
                                            · rw [if_neg c36] at H
                                              have c36b0 : decide (57 < (bt (rdOf ByteArray.empty t267 1) (ji26))) = false := decide_eq_false c36
                                              clear c36
                                              by_cases c37 : (bt (rdOf ByteArray.empty t267 1) (ji30)) < 48
                                              · rw [if_pos c37] at H
                                                have c37b0 : decide ((bt (rdOf ByteArray.empty t267 1) (ji30)) < 48) = true := decide_eq_true c37
                                                clear c37
                                                have H' := Aside0.mk H
                                                clear H
                                                go_wp2
                                                repeat (go_quiet (fail); try go_wp2)
                                                go_meet
                                                case rel => exact ⟨_, (true), (by first | rfl | (simp; done) | (simp [*]; done)), H', ⟨by have := HJ1.out; have := HJ5.out; have := HJ9.out; have := HJ18.out; have := HK5.out; first | omega | exact Nat.le_refl _⟩, ⟨by (with_reducible repeat (first | apply Kd.R_alloc | apply Kd.R_drewN | apply Kd.R_drew)); exact HO_6.out⟩, ⟨by repeat (first | (with_reducible first | exact HB.out | apply below_alloc | apply pw_below_drewN | apply below_drew1) | exact HB.out)⟩⟩
                                              · rw [if_neg c37] at H
                                                have c37b0 : decide ((bt (rdOf ByteArray.empty t267 1) (ji30)) < 48) = false := decide_eq_false c37
                                                clear c37
                                                have H' := Aside0.mk H
                                                clear H
                                                go_wp2
                                                repeat (go_quiet (fail); try go_wp2)
                                                go_meet
                                                case rel => exact ⟨_, (decide ((bt (rdOf ByteArray.empty t267 1) (ji30)) > 57)), (by first | rfl | (simp; done) | (simp only [← hji30] <;> (first | rfl | simp)) | (simp [*]; done)), H', ⟨by have := HJ1.out; have := HJ5.out; have := HJ9.out; have := HJ18.out; have := HK5.out; first | omega | exact Nat.le_refl _⟩, ⟨by (with_reducible repeat (first | apply Kd.R_alloc | apply Kd.R_drewN | apply Kd.R_drew)); exact HO_6.out⟩, ⟨by repeat (first | (with_reducible first | exact HB.out | apply below_alloc | apply pw_below_drewN | apply below_drew1) | exact HB.out)⟩⟩
                                        case rest =>
                                          clear HC34
                                          try clear c1
                                          try clear c2
                                          try clear p2
                                          try clear q2
                                          try clear hx2
                                          try clear qi2
                                          try clear c3
                                          try clear c3b0
                                          try clear c3b1
                                          try clear p3
                                          try clear q3
                                          try clear hx3
                                          try clear c4
                                          try clear c4b0
                                          try clear c4b1
                                          try clear p5
                                          try clear q5
                                          try clear hx5
                                          try clear qi5
                                          try clear p6
                                          try clear c7
                                          try clear c8
                                          try clear c8b0
                                          try clear c8b1
                                          try clear c12
                                          try clear c12b0
                                          try clear c12b1
                                          try clear c13
                                          try clear c13b0
                                          try clear c13b1
                                          try clear c16
                                          try clear c17
                                          try clear c17b0
                                          try clear c17b1
                                          try clear c22
                                          try clear c23
                                          try clear c24
                                          try clear c24b0
                                          try clear c25
                                          try clear c25b0
                                          try clear c25b1
                                          try clear c27
                                          try clear c27b0
                                          try clear p27
                                          try clear q27
                                          try clear hx27
                                          try clear qi27
                                          try clear c28
                                          try clear c28b0
                                          try clear p29
                                          try clear q29
                                          try clear hx29
                                          try clear c31
                                          try clear c31b0
                                          try clear c32
                                          try clear c32b0
                                          try clear p33
                                          try clear q33
                                          try clear hx33
                                          try clear c35
                                          try clear c35b0
                                          try clear c36
                                          try clear c36b0
                                          try clear c37
                                          try clear c37b0
                                          try clear hx270_0
                                          try clear hx271_0
                                          try clear hx274_0
                                          try clear hx275_0
                                          try clear p2
                                          try clear p270
                                          try clear p271
                                          try clear p274
                                          try clear p275
                                          try clear p29
                                          try clear p33
                                          try clear p5
                                          try clear p6
                                          try clear q2
                                          try clear q270
                                          try clear q271
                                          try clear q274
                                          try clear q275
                                          try clear q29
                                          try clear q33
                                          try clear q5
                                          obtain ⟨kq, x82_33, rfl, HA, HJ33, HO_6, HB⟩ := hcut
                                          cases kq with
                                          | zero => exact absurd HA.out (by simp [spec_ReadAngle.j5])
                                          | succ kj33 =>
                                            have H := HA.out
                                            clear HA
                                            simp only [spec_ReadAngle.j5] at H
                                            by_cases c38 : x82_33 = true
                                            · subst c38
                                              have H1 : (some (0, 6)) = some (r1, r2) := by rw [if_pos rfl] at H; exact H
                                              clear H
                                              have H := H1
                                              clear H1
                                              simp only [Option.some.injEq, Prod.mk.injEq] at H
                                              obtain ⟨rfl, rfl⟩ := H
                                              go_wp2
                                              repeat (go_quiet (fail); try go_wp2)
                                              go_ret2
                                              exact ⟨by first | rfl | (simp [errW_none, errW_some] <;> rfl) | (simp only [← hji26, ← hji30]; first | rfl | (simp [errW_none, errW_some] <;> rfl)) | (simp [*, errW_none, errW_some] <;> rfl), by repeat (first | (with_reducible first | exact HB.out | apply below_alloc | apply pw_below_drewN | apply below_drew1) | exact HB.out)⟩
                                            · replace c38 := Bool.eq_false_iff.mpr c38
                                              subst c38
                                              have H1 : (if x10_5 = 0 then (spec_ReadAngle.l0 kj33 a0 x5_5 t267 (wrap64 (x9_5 + (60 * ((10 * (((bt (rdOf ByteArray.empty t267 1) (ji26)) - 48) % 256)) + (((bt (rdOf ByteArray.empty t267 1) (ji30)) - 48) % 256))))) (wrap64 (x10_5 + 1))) else (spec_ReadAngle.l0 kj33 a0 x5_5 t267 (wrap64 (x9_5 + ((10 * (((bt (rdOf ByteArray.empty t267 1) (ji26)) - 48) % 256)) + (((bt (rdOf ByteArray.empty t267 1) (ji30)) - 48) % 256)))) (wrap64 (x10_5 + 1)))) = some (r1, r2) := by rw [if_neg (show ¬ (false = true) by decide)] at H; exact H
                                              clear H
                                              have H := H1
                                              clear H1
                                              by_cases c39 : x10_5 = 0
                                              · rw [if_pos c39] at H
                                                have c39b0 : (x10_5 == 0) = true := beq_iff_eq.mpr c39
                                                have c39b1 : (x10_5 != 0) = false := bne_eq_false_iff_eq.mpr c39
                                                clear c39
                                                have H' := Aside0.mk H
                                                clear H
                                                go_wp2
                                                repeat (go_quiet (fail); try go_wp2)
                                                go_roundg kj33
                                                case measure => have := HJ1.out; have := HJ5.out; have := HJ9.out; have := HJ18.out; have := HK5.out; have := HJ33.out; omega
                                                case rel => exact ⟨(wrap64 (x9_5 + (60 * ((10 * (((bt (rdOf ByteArray.empty t267 1) (ji26)) - 48) % 256)) + (((bt (rdOf ByteArray.empty t267 1) (ji30)) - 48) % 256))))), (wrap64 (x10_5 + 1)), (by first | rfl | (simp; done) | (simp only [← hji26, ← hji30] <;> (first | rfl | simp)) | (simp [*]; done)), (by first | rfl | (simp; done) | (simp [*]; done)), H', ⟨by have := HJ1.out; have := HJ5.out; have := HJ9.out; have := HJ18.out; have := HK5.out; have := HJ33.out; omega⟩, ⟨by (with_reducible repeat (first | apply Kd.R_alloc | apply Kd.R_drewN | apply Kd.R_drew)); exact HO_6.out⟩, ⟨by repeat (first | (with_reducible first | exact HB.out | apply below_alloc | apply pw_below_drewN | apply below_drew1) | exact HB.out)⟩⟩
                                              · rw [if_neg c39] at H
                                                have c39b0 : (x10_5 == 0) = false := beq_eq_false_iff_ne.mpr c39
                                                have c39b1 : (x10_5 != 0) = true := bne_iff_ne.mpr c39
                                                have H' := Aside0.mk H
                                                clear H
                                                go_wp2
                                                repeat (go_quiet (fail); try go_wp2)
                                                go_roundg kj33
                                                case measure => have := HJ1.out; have := HJ5.out; have := HJ9.out; have := HJ18.out; have := HK5.out; have := HJ33.out; omega
                                                case rel => exact ⟨(wrap64 (x9_5 + ((10 * (((bt (rdOf ByteArray.empty t267 1) (ji26)) - 48) % 256)) + (((bt (rdOf ByteArray.empty t267 1) (ji30)) - 48) % 256)))), (wrap64 (x10_5 + 1)), (by first | rfl | (simp; done) | (simp only [← hji26, ← hji30] <;> (first | rfl | simp)) | (simp [*]; done)), (by first | rfl | (simp; done) | (simp [*]; done)), H', ⟨by have := HJ1.out; have := HJ5.out; have := HJ9.out; have := HJ18.out; have := HK5.out; have := HJ33.out; omega⟩, ⟨by (with_reducible repeat (first | apply Kd.R_alloc | apply Kd.R_drewN | apply Kd.R_drew)); exact HO_6.out⟩, ⟨by repeat (first | (with_reducible first | exact HB.out | apply below_alloc | apply pw_below_drewN | apply below_drew1) | exact HB.out)⟩⟩
                                      · rw [if_neg c32] at H
                                        exact absurd H (by simp)
                                    · rw [if_neg c31] at H
                                      exact absurd H (by simp)
                                  · rw [if_neg c28] at H
                                    exact absurd H (by simp)
                                · rw [if_neg c27] at H
                                  exact absurd H (by simp)
                              · rw [if_neg c25] at H
                                exact absurd H (by simp)
                            · rw [if_neg c24] at H
                              have c24b0 : decide (x10_5 < 2) = false := decide_eq_false c24
                              clear c24
                              replace H := Option.bind_eq_some_iff.mp H
                              obtain ⟨t276, A400, H⟩ := H
                              replace H : (if t276 = true then ((spec_l03Text.f k5 (wrap64 (x5_5 * x9_5))).bind fun t277 => (if t277.toList = a0.toList then (some (wrap64 (x5_5 * x9_5), 0)) else (some (0, 6)))) else (some (0, 6))) = some (r1, r2) := H
                              have A40 := Aside0.mk A400
                              clear A400
                              by_cases c41 : t276 = true
                              · subst c41
                                have H1 : ((spec_l03Text.f k5 (wrap64 (x5_5 * x9_5))).bind fun t277 => (if t277.toList = a0.toList then (some (wrap64 (x5_5 * x9_5), 0)) else (some (0, 6)))) = some (r1, r2) := by rw [if_pos rfl] at H; exact H
                                clear H
                                have H := H1
                                clear H1
                                replace H := Option.bind_eq_some_iff.mp H
                                obtain ⟨t277, A420, H⟩ := H
                                replace H : (if t277.toList = a0.toList then (some (wrap64 (x5_5 * x9_5), 0)) else (some (0, 6))) = some (r1, r2) := H
                                have A42 := Aside0.mk A420
                                clear A420
                                by_cases c43 : t277.toList = a0.toList
                                · rw [if_pos c43] at H
                                  have c43b0 : (t277.toList == a0.toList) = true := beq_iff_eq.mpr c43
                                  have c43b1 : (t277.toList != a0.toList) = false := bne_eq_false_iff_eq.mpr c43
                                  clear c43
                                  simp only [Option.some.injEq, Prod.mk.injEq] at H
                                  obtain ⟨rfl, rfl⟩ := H
                                  go_wp2_with (first | (go_at_call 43; (with_reducible refine (spec_l01In.calls (wrap64 (x5_5 * x9_5)) (-648000) 1296000 true _ A40.out).mono ?_); rintro e w' ⟨rfl, ⟨nd, rfl⟩⟩; (try first | exact ⟨rfl, _, World.drewN_drewN _ _ _⟩ | exact ⟨rfl, _, Eq.trans (World.drewN_drewN _ _ _) (congrArg (World.drewN _) (Nat.add_assoc _ _ _))⟩)) | (go_at_call 70; (with_reducible refine (spec_l03Text.calls k5 (wrap64 (x5_5 * x9_5)) t277 _ A42.out).mono ?_); rintro e w44 ⟨rfl, hb⟩; have n0_ := Aside0.mk (Kd.R_below (by (with_reducible repeat (first | apply Kd.R_alloc | apply Kd.R_drewN | apply Kd.R_drew)); exact HO_6.out) hb); have n1_ := Aside0.mk (below_step (by repeat (first | (with_reducible first | exact HB.out | apply below_alloc | apply pw_below_drewN | apply below_drew1) | exact HB.out)) hb); clear HO_6; clear HB; have HO_6 := n0_; have HB := n1_; clear n0_ n1_; (try clear hb); (try clear hb2); (try clear hk); (try clear hi)))
                                  repeat (go_quiet (first | (go_at_call 43; (with_reducible refine (spec_l01In.calls (wrap64 (x5_5 * x9_5)) (-648000) 1296000 true _ A40.out).mono ?_); rintro e w' ⟨rfl, ⟨nd, rfl⟩⟩; (try first | exact ⟨rfl, _, World.drewN_drewN _ _ _⟩ | exact ⟨rfl, _, Eq.trans (World.drewN_drewN _ _ _) (congrArg (World.drewN _) (Nat.add_assoc _ _ _))⟩)) | (go_at_call 70; (with_reducible refine (spec_l03Text.calls k5 (wrap64 (x5_5 * x9_5)) t277 _ A42.out).mono ?_); rintro e w44 ⟨rfl, hb⟩; have n0_ := Aside0.mk (Kd.R_below (by (with_reducible repeat (first | apply Kd.R_alloc | apply Kd.R_drewN | apply Kd.R_drew)); exact HO_6.out) hb); have n1_ := Aside0.mk (below_step (by repeat (first | (with_reducible first | exact HB.out | apply below_alloc | apply pw_below_drewN | apply below_drew1) | exact HB.out)) hb); clear HO_6; clear HB; have HO_6 := n0_; have HB := n1_; clear n0_ n1_; (try clear hb); (try clear hb2); (try clear hk); (try clear hi))); try go_wp2_with (first | (go_at_call 43; (with_reducible refine (spec_l01In.calls (wrap64 (x5_5 * x9_5)) (-648000) 1296000 true _ A40.out).mono ?_); rintro e w' ⟨rfl, ⟨nd, rfl⟩⟩; (try first | exact ⟨rfl, _, World.drewN_drewN _ _ _⟩ | exact ⟨rfl, _, Eq.trans (World.drewN_drewN _ _ _) (congrArg (World.drewN _) (Nat.add_assoc _ _ _))⟩)) | (go_at_call 70; (with_reducible refine (spec_l03Text.calls k5 (wrap64 (x5_5 * x9_5)) t277 _ A42.out).mono ?_); rintro e w44 ⟨rfl, hb⟩; have n0_ := Aside0.mk (Kd.R_below (by (with_reducible repeat (first | apply Kd.R_alloc | apply Kd.R_drewN | apply Kd.R_drew)); exact HO_6.out) hb); have n1_ := Aside0.mk (below_step (by repeat (first | (with_reducible first | exact HB.out | apply below_alloc | apply pw_below_drewN | apply below_drew1) | exact HB.out)) hb); clear HO_6; clear HB; have HO_6 := n0_; have HB := n1_; clear n0_ n1_; (try clear hb); (try clear hb2); (try clear hk); (try clear hi))))
                                  go_ret2
                                  exact ⟨by first | rfl | (simp [errW_none, errW_some] <;> rfl) | (simp [*, errW_none, errW_some] <;> rfl), by repeat (first | (with_reducible first | exact HB.out | apply below_alloc | apply pw_below_drewN | apply below_drew1) | exact HB.out)⟩
                                · rw [if_neg c43] at H
                                  have c43b0 : (t277.toList == a0.toList) = false := beq_eq_false_iff_ne.mpr c43
                                  have c43b1 : (t277.toList != a0.toList) = true := bne_iff_ne.mpr c43
                                  simp only [Option.some.injEq, Prod.mk.injEq] at H
                                  obtain ⟨rfl, rfl⟩ := H
                                  go_wp2_with (first | (go_at_call 43; (with_reducible refine (spec_l01In.calls (wrap64 (x5_5 * x9_5)) (-648000) 1296000 true _ A40.out).mono ?_); rintro e w' ⟨rfl, ⟨nd, rfl⟩⟩; (try first | exact ⟨rfl, _, World.drewN_drewN _ _ _⟩ | exact ⟨rfl, _, Eq.trans (World.drewN_drewN _ _ _) (congrArg (World.drewN _) (Nat.add_assoc _ _ _))⟩)) | (go_at_call 70; (with_reducible refine (spec_l03Text.calls k5 (wrap64 (x5_5 * x9_5)) t277 _ A42.out).mono ?_); rintro e w45 ⟨rfl, hb⟩; have n0_ := Aside0.mk (Kd.R_below (by (with_reducible repeat (first | apply Kd.R_alloc | apply Kd.R_drewN | apply Kd.R_drew)); exact HO_6.out) hb); have n1_ := Aside0.mk (below_step (by repeat (first | (with_reducible first | exact HB.out | apply below_alloc | apply pw_below_drewN | apply below_drew1) | exact HB.out)) hb); clear HO_6; clear HB; have HO_6 := n0_; have HB := n1_; clear n0_ n1_; (try clear hb); (try clear hb2); (try clear hk); (try clear hi)))
                                  repeat (go_quiet (first | (go_at_call 43; (with_reducible refine (spec_l01In.calls (wrap64 (x5_5 * x9_5)) (-648000) 1296000 true _ A40.out).mono ?_); rintro e w' ⟨rfl, ⟨nd, rfl⟩⟩; (try first | exact ⟨rfl, _, World.drewN_drewN _ _ _⟩ | exact ⟨rfl, _, Eq.trans (World.drewN_drewN _ _ _) (congrArg (World.drewN _) (Nat.add_assoc _ _ _))⟩)) | (go_at_call 70; (with_reducible refine (spec_l03Text.calls k5 (wrap64 (x5_5 * x9_5)) t277 _ A42.out).mono ?_); rintro e w45 ⟨rfl, hb⟩; have n0_ := Aside0.mk (Kd.R_below (by (with_reducible repeat (first | apply Kd.R_alloc | apply Kd.R_drewN | apply Kd.R_drew)); exact HO_6.out) hb); have n1_ := Aside0.mk (below_step (by repeat (first | (with_reducible first | exact HB.out | apply below_alloc | apply pw_below_drewN | apply below_drew1) | exact HB.out)) hb); clear HO_6; clear HB; have HO_6 := n0_; have HB := n1_; clear n0_ n1_; (try clear hb); (try clear hb2); (try clear hk); (try clear hi))); try go_wp2_with (first | (go_at_call 43; (with_reducible refine (spec_l01In.calls (wrap64 (x5_5 * x9_5)) (-648000) 1296000 true _ A40.out).mono ?_); rintro e w' ⟨rfl, ⟨nd, rfl⟩⟩; (try first | exact ⟨rfl, _, World.drewN_drewN _ _ _⟩ | exact ⟨rfl, _, Eq.trans (World.drewN_drewN _ _ _) (congrArg (World.drewN _) (Nat.add_assoc _ _ _))⟩)) | (go_at_call 70; (with_reducible refine (spec_l03Text.calls k5 (wrap64 (x5_5 * x9_5)) t277 _ A42.out).mono ?_); rintro e w45 ⟨rfl, hb⟩; have n0_ := Aside0.mk (Kd.R_below (by (with_reducible repeat (first | apply Kd.R_alloc | apply Kd.R_drewN | apply Kd.R_drew)); exact HO_6.out) hb); have n1_ := Aside0.mk (below_step (by repeat (first | (with_reducible first | exact HB.out | apply below_alloc | apply pw_below_drewN | apply below_drew1) | exact HB.out)) hb); clear HO_6; clear HB; have HO_6 := n0_; have HB := n1_; clear n0_ n1_; (try clear hb); (try clear hb2); (try clear hk); (try clear hi))))
                                  go_ret2
                                  exact ⟨by first | rfl | (simp [errW_none, errW_some] <;> rfl) | (simp [*, errW_none, errW_some] <;> rfl), by repeat (first | (with_reducible first | exact HB.out | apply below_alloc | apply pw_below_drewN | apply below_drew1) | exact HB.out)⟩
                              · replace c41 := Bool.eq_false_iff.mpr c41
                                subst c41
                                have H1 : (some (0, 6)) = some (r1, r2) := by rw [if_neg (show ¬ (false = true) by decide)] at H; exact H
                                clear H
                                have H := H1
                                clear H1
                                simp only [Option.some.injEq, Prod.mk.injEq] at H
                                obtain ⟨rfl, rfl⟩ := H
                                go_wp2_with (first | (go_at_call 43; (with_reducible refine (spec_l01In.calls (wrap64 (x5_5 * x9_5)) (-648000) 1296000 false _ A40.out).mono ?_); rintro e w' ⟨rfl, ⟨nd, rfl⟩⟩; (try first | exact ⟨rfl, _, World.drewN_drewN _ _ _⟩ | exact ⟨rfl, _, Eq.trans (World.drewN_drewN _ _ _) (congrArg (World.drewN _) (Nat.add_assoc _ _ _))⟩)))
                                repeat (go_quiet (first | (go_at_call 43; (with_reducible refine (spec_l01In.calls (wrap64 (x5_5 * x9_5)) (-648000) 1296000 false _ A40.out).mono ?_); rintro e w' ⟨rfl, ⟨nd, rfl⟩⟩; (try first | exact ⟨rfl, _, World.drewN_drewN _ _ _⟩ | exact ⟨rfl, _, Eq.trans (World.drewN_drewN _ _ _) (congrArg (World.drewN _) (Nat.add_assoc _ _ _))⟩))); try go_wp2_with (first | (go_at_call 43; (with_reducible refine (spec_l01In.calls (wrap64 (x5_5 * x9_5)) (-648000) 1296000 false _ A40.out).mono ?_); rintro e w' ⟨rfl, ⟨nd, rfl⟩⟩; (try first | exact ⟨rfl, _, World.drewN_drewN _ _ _⟩ | exact ⟨rfl, _, Eq.trans (World.drewN_drewN _ _ _) (congrArg (World.drewN _) (Nat.add_assoc _ _ _))⟩))))
                                go_ret2
                                exact ⟨by first | rfl | (simp [errW_none, errW_some] <;> rfl) | (simp [*, errW_none, errW_some] <;> rfl), by repeat (first | (with_reducible first | exact HB.out | apply below_alloc | apply pw_below_drewN | apply below_drew1) | exact HB.out)⟩
                · rw [if_neg c17] at H
                  exact absurd H (by simp)

end Go.Proofs.YtndjeclnadpifaaDoor.PFnAngleTexts
