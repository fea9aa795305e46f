-- The machine's side of the law FnExactSignOf: functions and their walks, made by q.py out of the kit's own print.
import Derived.Test.YtllapjemdegnjaaQFnExactSignOfx0
import Derived.Test.YtllapjemdegnjaaQFnExactSignOfx1
namespace Go.Proofs.Ytllapjemdegnjaa.PFnExactSignOf
open Go.RowKit Go.Proofs.YtllapjemdegnjaaW.PrintWords Go.Proofs.YtllapjemdegnjaaW.PrintLast Go.Proofs.YtllapjemdegnjaaW.PrintMore
attribute [local go_sem] max2_int min2_int max_two min_two max_three min_three max_four min_four   -- for this text's walks alone
set_option linter.unusedVariables false
set_option linter.unusedSimpArgs false

/-! ### impl_floor: function 90 -/
def impl_floor.f (a0 : Int) (a1 : Int) : Option (Int) := if a1 = 0 then (none) else (if (Int.tmod a0 a1) = 0 then (some (wrap64 (Int.tdiv a0 a1))) else (if ((decide ((Int.tmod a0 a1) < 0)) != (decide (a1 < 0))) = true then (some (wrap64 ((wrap64 (Int.tdiv a0 a1)) - 1))) else (some (wrap64 (Int.tdiv a0 a1)))))
set_option maxHeartbeats 8000000 in
set_option maxRecDepth 100000 in
theorem impl_floor.calls (a0 : Int) (a1 : Int) (r : Int) (w : World) (h : impl_floor.f a0 a1 = some r) :
    Calls Try.prog 90 #[.int .i64 a0, .int .i64 a1] w fun e w' => e = .returned (.int .i64 r) ∧ Drawn0 w w' := by
  have H : (if a1 = 0 then (none) else (if (Int.tmod a0 a1) = 0 then (some (wrap64 (Int.tdiv a0 a1))) else (if ((decide ((Int.tmod a0 a1) < 0)) != (decide (a1 < 0))) = true then (some (wrap64 ((wrap64 (Int.tdiv a0 a1)) - 1))) else (some (wrap64 (Int.tdiv a0 a1)))))) = some r := h
  clear h
  by_cases c3 : a1 = 0
  · rw [if_pos c3] at H
    exact absurd H (by simp)
  · rw [if_neg c3] at H
    have c3b0 : (a1 == 0) = false := beq_eq_false_iff_ne.mpr c3
    have c3b1 : (a1 != 0) = true := bne_iff_ne.mpr c3
    by_cases c4 : (Int.tmod a0 a1) = 0
    · rw [if_pos c4] at H
      have c4b0 : ((Int.tmod a0 a1) == 0) = true := beq_iff_eq.mpr c4
      have c4b1 : ((Int.tmod a0 a1) != 0) = false := bne_eq_false_iff_eq.mpr c4
      clear c4
      obtain rfl := Option.some.inj H
      go_enter Try.func90, Try.ntmps90
      go_wp2
      go_ret
      exact ⟨by first | rfl | (simp; done) | (simp [*]; done), by repeat (first | exact Drawn0.refl _ | apply Drawn0.step)⟩
    · rw [if_neg c4] at H
      have c4b0 : ((Int.tmod a0 a1) == 0) = false := beq_eq_false_iff_ne.mpr c4
      have c4b1 : ((Int.tmod a0 a1) != 0) = true := bne_iff_ne.mpr c4
      by_cases c5 : ((decide ((Int.tmod a0 a1) < 0)) != (decide (a1 < 0))) = true
      · rw [if_pos c5] at H
        have c5b0 : ((decide ((Int.tmod a0 a1) < 0)) != (decide (a1 < 0))) = true := c5
        (try (have c5b1 : decide ((decide ((Int.tmod a0 a1) < 0)) = (decide (a1 < 0))) = false := by simpa using c5))
        (try (have c5b2 : ((decide ((Int.tmod a0 a1) < 0)) == (decide (a1 < 0))) = false := by simpa using c5))
        (try (have c5b3 : ¬ ((decide ((Int.tmod a0 a1) < 0)) = (decide (a1 < 0))) := by simpa using c5))
        clear c5
        obtain rfl := Option.some.inj H
        go_enter Try.func90, Try.ntmps90
        go_wp2
        go_ret
        exact ⟨by first | rfl | (simp; done) | (simp [*]; done), by repeat (first | exact Drawn0.refl _ | apply Drawn0.step)⟩
      · rw [if_neg c5] at H
        have c5b0 : ((decide ((Int.tmod a0 a1) < 0)) != (decide (a1 < 0))) = false := by simpa using c5
        (try (have c5b1 : decide ((decide ((Int.tmod a0 a1) < 0)) = (decide (a1 < 0))) = true := by simpa using c5))
        (try (have c5b2 : ((decide ((Int.tmod a0 a1) < 0)) == (decide (a1 < 0))) = true := by simpa using c5))
        clear c5
        obtain rfl := Option.some.inj H
        go_enter Try.func90, Try.ntmps90
        go_wp2
        go_ret
        exact ⟨by first | rfl | (simp; done) | (simp [*]; done), by repeat (first | exact Drawn0.refl _ | apply Drawn0.step)⟩

/-! ### impl_nearest: function 59 -/
def impl_nearest.f (a0 : Int) (a1 : Int) : Option (Int) := if a1 < 0 then ((impl_floor.f (wrap64 (-a0)) (wrap64 (-a1))).bind fun t131 => (if (wrap64 ((wrap64 (-a0)) - (wrap64 (t131 * (wrap64 (-a1)))))) ≥ (wrap64 ((wrap64 (-a1)) - (wrap64 ((wrap64 (-a0)) - (wrap64 (t131 * (wrap64 (-a1)))))))) then (some (wrap64 (t131 + 1))) else (some t131))) else ((impl_floor.f a0 a1).bind fun t132 => (if (wrap64 (a0 - (wrap64 (t132 * a1)))) ≥ (wrap64 (a1 - (wrap64 (a0 - (wrap64 (t132 * a1)))))) then (some (wrap64 (t132 + 1))) else (some t132)))
set_option maxHeartbeats 8000000 in
set_option maxRecDepth 100000 in
theorem impl_nearest.calls (a0 : Int) (a1 : Int) (r : Int) (w : World) (h : impl_nearest.f a0 a1 = some r) :
    Calls Try.prog 59 #[.int .i64 a0, .int .i64 a1] w fun e w' => e = .returned (.int .i64 r) ∧ Drawn0 w w' := by
  have H : (if a1 < 0 then ((impl_floor.f (wrap64 (-a0)) (wrap64 (-a1))).bind fun t131 => (if (wrap64 ((wrap64 (-a0)) - (wrap64 (t131 * (wrap64 (-a1)))))) ≥ (wrap64 ((wrap64 (-a1)) - (wrap64 ((wrap64 (-a0)) - (wrap64 (t131 * (wrap64 (-a1)))))))) then (some (wrap64 (t131 + 1))) else (some t131))) else ((impl_floor.f a0 a1).bind fun t132 => (if (wrap64 (a0 - (wrap64 (t132 * a1)))) ≥ (wrap64 (a1 - (wrap64 (a0 - (wrap64 (t132 * a1)))))) then (some (wrap64 (t132 + 1))) else (some t132)))) = some r := h
  clear h
  by_cases c3 : a1 < 0
  · rw [if_pos c3] at H
    have c3b0 : decide (a1 < 0) = true := decide_eq_true c3
    clear c3
    replace H := Option.bind_eq_some_iff.mp H
    obtain ⟨t131, A40, H⟩ := H
    replace H : (if (wrap64 ((wrap64 (-a0)) - (wrap64 (t131 * (wrap64 (-a1)))))) ≥ (wrap64 ((wrap64 (-a1)) - (wrap64 ((wrap64 (-a0)) - (wrap64 (t131 * (wrap64 (-a1)))))))) then (some (wrap64 (t131 + 1))) else (some t131)) = some r := H
    have A4 := Aside0.mk A40
    clear A40
    by_cases c5 : (wrap64 ((wrap64 (-a0)) - (wrap64 (t131 * (wrap64 (-a1)))))) ≥ (wrap64 ((wrap64 (-a1)) - (wrap64 ((wrap64 (-a0)) - (wrap64 (t131 * (wrap64 (-a1))))))))
    · rw [if_pos c5] at H
      have c5b0 : decide ((wrap64 ((wrap64 (-a1)) - (wrap64 ((wrap64 (-a0)) - (wrap64 (t131 * (wrap64 (-a1)))))))) ≤ (wrap64 ((wrap64 (-a0)) - (wrap64 (t131 * (wrap64 (-a1))))))) = true := decide_eq_true c5
      clear c5
      obtain rfl := Option.some.inj H
      go_enter Try.func59, Try.ntmps59
      go_wp2_with (first | ((with_reducible refine gate_callee (f := 90) rfl ?_); refine goesL_ (some 15) rfl rfl Try.func90 (by kernel_rfl) rfl #[.int .i64 (wrap64 (-a0)), .int .i64 (wrap64 (-a1))] rfl (by (try simp only [List.map_toArray, List.map_cons, List.map_nil]); first | done | rfl | (simp only [List.length_drop, List.length_take]; rfl)) ?_; (with_reducible refine (impl_floor.calls (wrap64 (-a0)) (wrap64 (-a1)) t131 _ A4.out).mono ?_); rintro e w' ⟨rfl, ⟨nd, rfl⟩⟩; refine ⟨_, rfl, ?_⟩))
      go_ret
      exact ⟨by first | rfl | (simp; done) | (simp [*]; done), by repeat (first | exact Drawn0.refl _ | apply Drawn0.step)⟩
    · rw [if_neg c5] at H
      have c5b0 : decide ((wrap64 ((wrap64 (-a1)) - (wrap64 ((wrap64 (-a0)) - (wrap64 (t131 * (wrap64 (-a1)))))))) ≤ (wrap64 ((wrap64 (-a0)) - (wrap64 (t131 * (wrap64 (-a1))))))) = false := decide_eq_false c5
      clear c5
      obtain rfl := Option.some.inj H
      go_enter Try.func59, Try.ntmps59
      go_wp2_with (first | ((with_reducible refine gate_callee (f := 90) rfl ?_); refine goesL_ (some 15) rfl rfl Try.func90 (by kernel_rfl) rfl #[.int .i64 (wrap64 (-a0)), .int .i64 (wrap64 (-a1))] rfl (by (try simp only [List.map_toArray, List.map_cons, List.map_nil]); first | done | rfl | (simp only [List.length_drop, List.length_take]; rfl)) ?_; (with_reducible refine (impl_floor.calls (wrap64 (-a0)) (wrap64 (-a1)) t131 _ A4.out).mono ?_); rintro e w' ⟨rfl, ⟨nd, rfl⟩⟩; refine ⟨_, rfl, ?_⟩))
      go_ret
      exact ⟨by first | rfl | (simp; done) | (simp [*]; done), by repeat (first | exact Drawn0.refl _ | apply Drawn0.step)⟩
  · rw [if_neg c3] at H
    have c3b0 : decide (a1 < 0) = false := decide_eq_false c3
    clear c3
    replace H := Option.bind_eq_some_iff.mp H
    obtain ⟨t132, A60, H⟩ := H
    replace H : (if (wrap64 (a0 - (wrap64 (t132 * a1)))) ≥ (wrap64 (a1 - (wrap64 (a0 - (wrap64 (t132 * a1)))))) then (some (wrap64 (t132 + 1))) else (some t132)) = some r := H
    have A6 := Aside0.mk A60
    clear A60
    by_cases c7 : (wrap64 (a0 - (wrap64 (t132 * a1)))) ≥ (wrap64 (a1 - (wrap64 (a0 - (wrap64 (t132 * a1))))))
    · rw [if_pos c7] at H
      have c7b0 : decide ((wrap64 (a1 - (wrap64 (a0 - (wrap64 (t132 * a1)))))) ≤ (wrap64 (a0 - (wrap64 (t132 * a1))))) = true := decide_eq_true c7
      clear c7
      obtain rfl := Option.some.inj H
      go_enter Try.func59, Try.ntmps59
      go_wp2_with (first | ((with_reducible refine gate_callee (f := 90) rfl ?_); refine goesL_ (some 15) rfl rfl Try.func90 (by kernel_rfl) rfl #[.int .i64 a0, .int .i64 a1] rfl (by (try simp only [List.map_toArray, List.map_cons, List.map_nil]); first | done | rfl | (simp only [List.length_drop, List.length_take]; rfl)) ?_; (with_reducible refine (impl_floor.calls a0 a1 t132 _ A6.out).mono ?_); rintro e w' ⟨rfl, ⟨nd, rfl⟩⟩; refine ⟨_, rfl, ?_⟩))
      go_ret
      exact ⟨by first | rfl | (simp; done) | (simp [*]; done), by repeat (first | exact Drawn0.refl _ | apply Drawn0.step)⟩
    · rw [if_neg c7] at H
      have c7b0 : decide ((wrap64 (a1 - (wrap64 (a0 - (wrap64 (t132 * a1)))))) ≤ (wrap64 (a0 - (wrap64 (t132 * a1))))) = false := decide_eq_false c7
      clear c7
      obtain rfl := Option.some.inj H
      go_enter Try.func59, Try.ntmps59
      go_wp2_with (first | ((with_reducible refine gate_callee (f := 90) rfl ?_); refine goesL_ (some 15) rfl rfl Try.func90 (by kernel_rfl) rfl #[.int .i64 a0, .int .i64 a1] rfl (by (try simp only [List.map_toArray, List.map_cons, List.map_nil]); first | done | rfl | (simp only [List.length_drop, List.length_take]; rfl)) ?_; (with_reducible refine (impl_floor.calls a0 a1 t132 _ A6.out).mono ?_); rintro e w' ⟨rfl, ⟨nd, rfl⟩⟩; refine ⟨_, rfl, ?_⟩))
      go_ret
      exact ⟨by first | rfl | (simp; done) | (simp [*]; done), by repeat (first | exact Drawn0.refl _ | apply Drawn0.step)⟩

/-! ### impl_mod: function 101 -/
def impl_mod.f (a0 : Int) (a1 : Int) : Option (Int) := (impl_floor.f a0 a1).bind fun t133 => (some (wrap64 (a0 - (wrap64 (t133 * a1)))))
set_option maxHeartbeats 8000000 in
set_option maxRecDepth 100000 in
theorem impl_mod.calls (a0 : Int) (a1 : Int) (r : Int) (w : World) (h : impl_mod.f a0 a1 = some r) :
    Calls Try.prog 101 #[.int .i64 a0, .int .i64 a1] w fun e w' => e = .returned (.int .i64 r) ∧ Drawn0 w w' := by
  have H : ((impl_floor.f a0 a1).bind fun t133 => (some (wrap64 (a0 - (wrap64 (t133 * a1)))))) = some r := h
  clear h
  replace H := Option.bind_eq_some_iff.mp H
  obtain ⟨t133, A30, H⟩ := H
  replace H : (some (wrap64 (a0 - (wrap64 (t133 * a1))))) = some r := H
  have A3 := Aside0.mk A30
  clear A30
  obtain rfl := Option.some.inj H
  go_enter Try.func101, Try.ntmps101
  go_wp2_with (first | ((with_reducible refine gate_callee (f := 90) rfl ?_); refine goesL_ (some 8) rfl rfl Try.func90 (by kernel_rfl) rfl #[.int .i64 a0, .int .i64 a1] rfl (by (try simp only [List.map_toArray, List.map_cons, List.map_nil]); first | done | rfl | (simp only [List.length_drop, List.length_take]; rfl)) ?_; (with_reducible refine (impl_floor.calls a0 a1 t133 _ A3.out).mono ?_); rintro e w' ⟨rfl, ⟨nd, rfl⟩⟩; refine ⟨_, rfl, ?_⟩))
  go_ret
  exact ⟨by first | rfl | (simp; done) | (simp [*]; done), by repeat (first | exact Drawn0.refl _ | apply Drawn0.step)⟩

/-! ### impl_plain: function 95 -/
def impl_plain.f (a0 : Int) : Option (Int) := (impl_mod.f a0 1296000).bind fun t134 => (some t134)
set_option maxHeartbeats 8000000 in
set_option maxRecDepth 100000 in
theorem impl_plain.calls (a0 : Int) (r : Int) (w : World) (h : impl_plain.f a0 = some r) :
    Calls Try.prog 95 #[.int .i64 a0] w fun e w' => e = .returned (.int .i64 r) ∧ Drawn0 w w' := by
  have H : ((impl_mod.f a0 1296000).bind fun t134 => (some t134)) = some r := h
  clear h
  replace H := Option.bind_eq_some_iff.mp H
  obtain ⟨t134, A20, H⟩ := H
  replace H : (some t134) = some r := H
  have A2 := Aside0.mk A20
  clear A20
  obtain rfl := Option.some.inj H
  go_enter Try.func95, Try.ntmps95
  go_wp2_with (first | ((with_reducible refine gate_callee (f := 101) rfl ?_); refine goesL_ (some 4) rfl rfl Try.func101 (by kernel_rfl) rfl #[.int .i64 a0, .int .i64 1296000] rfl (by (try simp only [List.map_toArray, List.map_cons, List.map_nil]); first | done | rfl | (simp only [List.length_drop, List.length_take]; rfl)) ?_; (with_reducible refine (impl_mod.calls a0 1296000 t134 _ A2.out).mono ?_); rintro e w' ⟨rfl, ⟨nd, rfl⟩⟩; refine ⟨_, rfl, ?_⟩))
  go_ret
  exact ⟨by first | rfl | (simp; done) | (simp [*]; done), by repeat (first | exact Drawn0.refl _ | apply Drawn0.step)⟩

/-! ### impl_polynomials: function 96 -/
def impl_polynomials.f (a0 : Int) : Option (Int × Int) := some (wrap64 ((wrap64 ((wrap64 ((wrap64 ((wrap64 (Int.tdiv (wrap64 (a0 * 48481368)) 10000)) - (wrap64 (Int.tdiv (wrap64 (Int.tdiv (wrap64 ((wrap64 (Int.tdiv (wrap64 (a0 * 48481368)) 10000)) * (wrap64 (Int.tdiv (wrap64 ((wrap64 (Int.tdiv (wrap64 (a0 * 48481368)) 10000)) * (wrap64 (Int.tdiv (wrap64 (a0 * 48481368)) 10000)))) 1000000000)))) 1000000000)) 6)))) + (wrap64 (Int.tdiv (wrap64 (Int.tdiv (wrap64 ((wrap64 (Int.tdiv (wrap64 (Int.tdiv (wrap64 ((wrap64 (Int.tdiv (wrap64 (a0 * 48481368)) 10000)) * (wrap64 (Int.tdiv (wrap64 ((wrap64 (Int.tdiv (wrap64 (a0 * 48481368)) 10000)) * (wrap64 (Int.tdiv (wrap64 (a0 * 48481368)) 10000)))) 1000000000)))) 1000000000)) 6)) * (wrap64 (Int.tdiv (wrap64 ((wrap64 (Int.tdiv (wrap64 (a0 * 48481368)) 10000)) * (wrap64 (Int.tdiv (wrap64 (a0 * 48481368)) 10000)))) 1000000000)))) 1000000000)) 20)))) - (wrap64 (Int.tdiv (wrap64 (Int.tdiv (wrap64 ((wrap64 (Int.tdiv (wrap64 (Int.tdiv (wrap64 ((wrap64 (Int.tdiv (wrap64 (Int.tdiv (wrap64 ((wrap64 (Int.tdiv (wrap64 (a0 * 48481368)) 10000)) * (wrap64 (Int.tdiv (wrap64 ((wrap64 (Int.tdiv (wrap64 (a0 * 48481368)) 10000)) * (wrap64 (Int.tdiv (wrap64 (a0 * 48481368)) 10000)))) 1000000000)))) 1000000000)) 6)) * (wrap64 (Int.tdiv (wrap64 ((wrap64 (Int.tdiv (wrap64 (a0 * 48481368)) 10000)) * (wrap64 (Int.tdiv (wrap64 (a0 * 48481368)) 10000)))) 1000000000)))) 1000000000)) 20)) * (wrap64 (Int.tdiv (wrap64 ((wrap64 (Int.tdiv (wrap64 (a0 * 48481368)) 10000)) * (wrap64 (Int.tdiv (wrap64 (a0 * 48481368)) 10000)))) 1000000000)))) 1000000000)) 42)))) + (wrap64 (Int.tdiv (wrap64 (Int.tdiv (wrap64 ((wrap64 (Int.tdiv (wrap64 (Int.tdiv (wrap64 ((wrap64 (Int.tdiv (wrap64 (Int.tdiv (wrap64 ((wrap64 (Int.tdiv (wrap64 (Int.tdiv (wrap64 ((wrap64 (Int.tdiv (wrap64 (a0 * 48481368)) 10000)) * (wrap64 (Int.tdiv (wrap64 ((wrap64 (Int.tdiv (wrap64 (a0 * 48481368)) 10000)) * (wrap64 (Int.tdiv (wrap64 (a0 * 48481368)) 10000)))) 1000000000)))) 1000000000)) 6)) * (wrap64 (Int.tdiv (wrap64 ((wrap64 (Int.tdiv (wrap64 (a0 * 48481368)) 10000)) * (wrap64 (Int.tdiv (wrap64 (a0 * 48481368)) 10000)))) 1000000000)))) 1000000000)) 20)) * (wrap64 (Int.tdiv (wrap64 ((wrap64 (Int.tdiv (wrap64 (a0 * 48481368)) 10000)) * (wrap64 (Int.tdiv (wrap64 (a0 * 48481368)) 10000)))) 1000000000)))) 1000000000)) 42)) * (wrap64 (Int.tdiv (wrap64 ((wrap64 (Int.tdiv (wrap64 (a0 * 48481368)) 10000)) * (wrap64 (Int.tdiv (wrap64 (a0 * 48481368)) 10000)))) 1000000000)))) 1000000000)) 72))), wrap64 ((wrap64 ((wrap64 ((wrap64 ((wrap64 (1000000000 - (wrap64 (Int.tdiv (wrap64 (Int.tdiv (wrap64 ((wrap64 (Int.tdiv (wrap64 (a0 * 48481368)) 10000)) * (wrap64 (Int.tdiv (wrap64 (a0 * 48481368)) 10000)))) 1000000000)) 2)))) + (wrap64 (Int.tdiv (wrap64 (Int.tdiv (wrap64 ((wrap64 (Int.tdiv (wrap64 (Int.tdiv (wrap64 ((wrap64 (Int.tdiv (wrap64 (a0 * 48481368)) 10000)) * (wrap64 (Int.tdiv (wrap64 (a0 * 48481368)) 10000)))) 1000000000)) 2)) * (wrap64 (Int.tdiv (wrap64 ((wrap64 (Int.tdiv (wrap64 (a0 * 48481368)) 10000)) * (wrap64 (Int.tdiv (wrap64 (a0 * 48481368)) 10000)))) 1000000000)))) 1000000000)) 12)))) - (wrap64 (Int.tdiv (wrap64 (Int.tdiv (wrap64 ((wrap64 (Int.tdiv (wrap64 (Int.tdiv (wrap64 ((wrap64 (Int.tdiv (wrap64 (Int.tdiv (wrap64 ((wrap64 (Int.tdiv (wrap64 (a0 * 48481368)) 10000)) * (wrap64 (Int.tdiv (wrap64 (a0 * 48481368)) 10000)))) 1000000000)) 2)) * (wrap64 (Int.tdiv (wrap64 ((wrap64 (Int.tdiv (wrap64 (a0 * 48481368)) 10000)) * (wrap64 (Int.tdiv (wrap64 (a0 * 48481368)) 10000)))) 1000000000)))) 1000000000)) 12)) * (wrap64 (Int.tdiv (wrap64 ((wrap64 (Int.tdiv (wrap64 (a0 * 48481368)) 10000)) * (wrap64 (Int.tdiv (wrap64 (a0 * 48481368)) 10000)))) 1000000000)))) 1000000000)) 30)))) + (wrap64 (Int.tdiv (wrap64 (Int.tdiv (wrap64 ((wrap64 (Int.tdiv (wrap64 (Int.tdiv (wrap64 ((wrap64 (Int.tdiv (wrap64 (Int.tdiv (wrap64 ((wrap64 (Int.tdiv (wrap64 (Int.tdiv (wrap64 ((wrap64 (Int.tdiv (wrap64 (a0 * 48481368)) 10000)) * (wrap64 (Int.tdiv (wrap64 (a0 * 48481368)) 10000)))) 1000000000)) 2)) * (wrap64 (Int.tdiv (wrap64 ((wrap64 (Int.tdiv (wrap64 (a0 * 48481368)) 10000)) * (wrap64 (Int.tdiv (wrap64 (a0 * 48481368)) 10000)))) 1000000000)))) 1000000000)) 12)) * (wrap64 (Int.tdiv (wrap64 ((wrap64 (Int.tdiv (wrap64 (a0 * 48481368)) 10000)) * (wrap64 (Int.tdiv (wrap64 (a0 * 48481368)) 10000)))) 1000000000)))) 1000000000)) 30)) * (wrap64 (Int.tdiv (wrap64 ((wrap64 (Int.tdiv (wrap64 (a0 * 48481368)) 10000)) * (wrap64 (Int.tdiv (wrap64 (a0 * 48481368)) 10000)))) 1000000000)))) 1000000000)) 56)))) - (wrap64 (Int.tdiv (wrap64 (Int.tdiv (wrap64 ((wrap64 (Int.tdiv (wrap64 (Int.tdiv (wrap64 ((wrap64 (Int.tdiv (wrap64 (Int.tdiv (wrap64 ((wrap64 (Int.tdiv (wrap64 (Int.tdiv (wrap64 ((wrap64 (Int.tdiv (wrap64 (Int.tdiv (wrap64 ((wrap64 (Int.tdiv (wrap64 (a0 * 48481368)) 10000)) * (wrap64 (Int.tdiv (wrap64 (a0 * 48481368)) 10000)))) 1000000000)) 2)) * (wrap64 (Int.tdiv (wrap64 ((wrap64 (Int.tdiv (wrap64 (a0 * 48481368)) 10000)) * (wrap64 (Int.tdiv (wrap64 (a0 * 48481368)) 10000)))) 1000000000)))) 1000000000)) 12)) * (wrap64 (Int.tdiv (wrap64 ((wrap64 (Int.tdiv (wrap64 (a0 * 48481368)) 10000)) * (wrap64 (Int.tdiv (wrap64 (a0 * 48481368)) 10000)))) 1000000000)))) 1000000000)) 30)) * (wrap64 (Int.tdiv (wrap64 ((wrap64 (Int.tdiv (wrap64 (a0 * 48481368)) 10000)) * (wrap64 (Int.tdiv (wrap64 (a0 * 48481368)) 10000)))) 1000000000)))) 1000000000)) 56)) * (wrap64 (Int.tdiv (wrap64 ((wrap64 (Int.tdiv (wrap64 (a0 * 48481368)) 10000)) * (wrap64 (Int.tdiv (wrap64 (a0 * 48481368)) 10000)))) 1000000000)))) 1000000000)) 90))))
set_option maxHeartbeats 8000000 in
set_option maxRecDepth 100000 in
theorem impl_polynomials.calls (a0 : Int) (r1 : Int) (r2 : Int) (w : World) (h : impl_polynomials.f a0 = some (r1, r2)) :
    Calls Try.prog 96 #[.int .i64 a0] w fun e w' => e = .returned (.tuple #[.int .i64 r1, .int .i64 r2]) ∧ Drawn0 w w' := by
  have H : (some (wrap64 ((wrap64 ((wrap64 ((wrap64 ((wrap64 (Int.tdiv (wrap64 (a0 * 48481368)) 10000)) - (wrap64 (Int.tdiv (wrap64 (Int.tdiv (wrap64 ((wrap64 (Int.tdiv (wrap64 (a0 * 48481368)) 10000)) * (wrap64 (Int.tdiv (wrap64 ((wrap64 (Int.tdiv (wrap64 (a0 * 48481368)) 10000)) * (wrap64 (Int.tdiv (wrap64 (a0 * 48481368)) 10000)))) 1000000000)))) 1000000000)) 6)))) + (wrap64 (Int.tdiv (wrap64 (Int.tdiv (wrap64 ((wrap64 (Int.tdiv (wrap64 (Int.tdiv (wrap64 ((wrap64 (Int.tdiv (wrap64 (a0 * 48481368)) 10000)) * (wrap64 (Int.tdiv (wrap64 ((wrap64 (Int.tdiv (wrap64 (a0 * 48481368)) 10000)) * (wrap64 (Int.tdiv (wrap64 (a0 * 48481368)) 10000)))) 1000000000)))) 1000000000)) 6)) * (wrap64 (Int.tdiv (wrap64 ((wrap64 (Int.tdiv (wrap64 (a0 * 48481368)) 10000)) * (wrap64 (Int.tdiv (wrap64 (a0 * 48481368)) 10000)))) 1000000000)))) 1000000000)) 20)))) - (wrap64 (Int.tdiv (wrap64 (Int.tdiv (wrap64 ((wrap64 (Int.tdiv (wrap64 (Int.tdiv (wrap64 ((wrap64 (Int.tdiv (wrap64 (Int.tdiv (wrap64 ((wrap64 (Int.tdiv (wrap64 (a0 * 48481368)) 10000)) * (wrap64 (Int.tdiv (wrap64 ((wrap64 (Int.tdiv (wrap64 (a0 * 48481368)) 10000)) * (wrap64 (Int.tdiv (wrap64 (a0 * 48481368)) 10000)))) 1000000000)))) 1000000000)) 6)) * (wrap64 (Int.tdiv (wrap64 ((wrap64 (Int.tdiv (wrap64 (a0 * 48481368)) 10000)) * (wrap64 (Int.tdiv (wrap64 (a0 * 48481368)) 10000)))) 1000000000)))) 1000000000)) 20)) * (wrap64 (Int.tdiv (wrap64 ((wrap64 (Int.tdiv (wrap64 (a0 * 48481368)) 10000)) * (wrap64 (Int.tdiv (wrap64 (a0 * 48481368)) 10000)))) 1000000000)))) 1000000000)) 42)))) + (wrap64 (Int.tdiv (wrap64 (Int.tdiv (wrap64 ((wrap64 (Int.tdiv (wrap64 (Int.tdiv (wrap64 ((wrap64 (Int.tdiv (wrap64 (Int.tdiv (wrap64 ((wrap64 (Int.tdiv (wrap64 (Int.tdiv (wrap64 ((wrap64 (Int.tdiv (wrap64 (a0 * 48481368)) 10000)) * (wrap64 (Int.tdiv (wrap64 ((wrap64 (Int.tdiv (wrap64 (a0 * 48481368)) 10000)) * (wrap64 (Int.tdiv (wrap64 (a0 * 48481368)) 10000)))) 1000000000)))) 1000000000)) 6)) * (wrap64 (Int.tdiv (wrap64 ((wrap64 (Int.tdiv (wrap64 (a0 * 48481368)) 10000)) * (wrap64 (Int.tdiv (wrap64 (a0 * 48481368)) 10000)))) 1000000000)))) 1000000000)) 20)) * (wrap64 (Int.tdiv (wrap64 ((wrap64 (Int.tdiv (wrap64 (a0 * 48481368)) 10000)) * (wrap64 (Int.tdiv (wrap64 (a0 * 48481368)) 10000)))) 1000000000)))) 1000000000)) 42)) * (wrap64 (Int.tdiv (wrap64 ((wrap64 (Int.tdiv (wrap64 (a0 * 48481368)) 10000)) * (wrap64 (Int.tdiv (wrap64 (a0 * 48481368)) 10000)))) 1000000000)))) 1000000000)) 72))), wrap64 ((wrap64 ((wrap64 ((wrap64 ((wrap64 (1000000000 - (wrap64 (Int.tdiv (wrap64 (Int.tdiv (wrap64 ((wrap64 (Int.tdiv (wrap64 (a0 * 48481368)) 10000)) * (wrap64 (Int.tdiv (wrap64 (a0 * 48481368)) 10000)))) 1000000000)) 2)))) + (wrap64 (Int.tdiv (wrap64 (Int.tdiv (wrap64 ((wrap64 (Int.tdiv (wrap64 (Int.tdiv (wrap64 ((wrap64 (Int.tdiv (wrap64 (a0 * 48481368)) 10000)) * (wrap64 (Int.tdiv (wrap64 (a0 * 48481368)) 10000)))) 1000000000)) 2)) * (wrap64 (Int.tdiv (wrap64 ((wrap64 (Int.tdiv (wrap64 (a0 * 48481368)) 10000)) * (wrap64 (Int.tdiv (wrap64 (a0 * 48481368)) 10000)))) 1000000000)))) 1000000000)) 12)))) - (wrap64 (Int.tdiv (wrap64 (Int.tdiv (wrap64 ((wrap64 (Int.tdiv (wrap64 (Int.tdiv (wrap64 ((wrap64 (Int.tdiv (wrap64 (Int.tdiv (wrap64 ((wrap64 (Int.tdiv (wrap64 (a0 * 48481368)) 10000)) * (wrap64 (Int.tdiv (wrap64 (a0 * 48481368)) 10000)))) 1000000000)) 2)) * (wrap64 (Int.tdiv (wrap64 ((wrap64 (Int.tdiv (wrap64 (a0 * 48481368)) 10000)) * (wrap64 (Int.tdiv (wrap64 (a0 * 48481368)) 10000)))) 1000000000)))) 1000000000)) 12)) * (wrap64 (Int.tdiv (wrap64 ((wrap64 (Int.tdiv (wrap64 (a0 * 48481368)) 10000)) * (wrap64 (Int.tdiv (wrap64 (a0 * 48481368)) 10000)))) 1000000000)))) 1000000000)) 30)))) + (wrap64 (Int.tdiv (wrap64 (Int.tdiv (wrap64 ((wrap64 (Int.tdiv (wrap64 (Int.tdiv (wrap64 ((wrap64 (Int.tdiv (wrap64 (Int.tdiv (wrap64 ((wrap64 (Int.tdiv (wrap64 (Int.tdiv (wrap64 ((wrap64 (Int.tdiv (wrap64 (a0 * 48481368)) 10000)) * (wrap64 (Int.tdiv (wrap64 (a0 * 48481368)) 10000)))) 1000000000)) 2)) * (wrap64 (Int.tdiv (wrap64 ((wrap64 (Int.tdiv (wrap64 (a0 * 48481368)) 10000)) * (wrap64 (Int.tdiv (wrap64 (a0 * 48481368)) 10000)))) 1000000000)))) 1000000000)) 12)) * (wrap64 (Int.tdiv (wrap64 ((wrap64 (Int.tdiv (wrap64 (a0 * 48481368)) 10000)) * (wrap64 (Int.tdiv (wrap64 (a0 * 48481368)) 10000)))) 1000000000)))) 1000000000)) 30)) * (wrap64 (Int.tdiv (wrap64 ((wrap64 (Int.tdiv (wrap64 (a0 * 48481368)) 10000)) * (wrap64 (Int.tdiv (wrap64 (a0 * 48481368)) 10000)))) 1000000000)))) 1000000000)) 56)))) - (wrap64 (Int.tdiv (wrap64 (Int.tdiv (wrap64 ((wrap64 (Int.tdiv (wrap64 (Int.tdiv (wrap64 ((wrap64 (Int.tdiv (wrap64 (Int.tdiv (wrap64 ((wrap64 (Int.tdiv (wrap64 (Int.tdiv (wrap64 ((wrap64 (Int.tdiv (wrap64 (Int.tdiv (wrap64 ((wrap64 (Int.tdiv (wrap64 (a0 * 48481368)) 10000)) * (wrap64 (Int.tdiv (wrap64 (a0 * 48481368)) 10000)))) 1000000000)) 2)) * (wrap64 (Int.tdiv (wrap64 ((wrap64 (Int.tdiv (wrap64 (a0 * 48481368)) 10000)) * (wrap64 (Int.tdiv (wrap64 (a0 * 48481368)) 10000)))) 1000000000)))) 1000000000)) 12)) * (wrap64 (Int.tdiv (wrap64 ((wrap64 (Int.tdiv (wrap64 (a0 * 48481368)) 10000)) * (wrap64 (Int.tdiv (wrap64 (a0 * 48481368)) 10000)))) 1000000000)))) 1000000000)) 30)) * (wrap64 (Int.tdiv (wrap64 ((wrap64 (Int.tdiv (wrap64 (a0 * 48481368)) 10000)) * (wrap64 (Int.tdiv (wrap64 (a0 * 48481368)) 10000)))) 1000000000)))) 1000000000)) 56)) * (wrap64 (Int.tdiv (wrap64 ((wrap64 (Int.tdiv (wrap64 (a0 * 48481368)) 10000)) * (wrap64 (Int.tdiv (wrap64 (a0 * 48481368)) 10000)))) 1000000000)))) 1000000000)) 90))))) = some (r1, r2) := h
  clear h
  simp only [Option.some.injEq, Prod.mk.injEq] at H
  obtain ⟨rfl, rfl⟩ := H
  go_enter Try.func96, Try.ntmps96
  go_wp2
  go_ret2
  exact ⟨by first | rfl | (simp; done) | (simp [*]; done), by repeat (first | exact Drawn0.refl _ | apply Drawn0.step)⟩

/-! ### impl_nanoSine: function 61 -/
def impl_nanoSine.j0 : Nat → Int → Int → Option (Int)
  | 0, _, _ => none
  | k + 1, x4, x5 => if x5 ≤ 162000 then ((impl_polynomials.f x5).bind fun bt136 => (if x4 < 2 then (some bt136.1) else (some (wrap64 (-bt136.1))))) else ((impl_polynomials.f (wrap64 (324000 - x5))).bind fun bt138 => (if x4 < 2 then (some bt138.2) else (some (wrap64 (-bt138.2)))))
def impl_nanoSine.f (k : Nat) (a0 : Int) : Option (Int) := (impl_plain.f a0).bind fun t135 => (if (Int.tmod (wrap64 (Int.tdiv t135 324000)) 2) = 1 then (impl_nanoSine.j0 k (wrap64 (Int.tdiv t135 324000)) (wrap64 (324000 - (Int.tmod t135 324000)))) else (impl_nanoSine.j0 k (wrap64 (Int.tdiv t135 324000)) (Int.tmod t135 324000)))
theorem impl_nanoSine.mono_l : ∀ k, (∀ y0 y1, LeO (impl_nanoSine.j0 k y0 y1) (impl_nanoSine.j0 (k + 1) y0 y1))
  | 0 => fun _ _ r h => by simp [impl_nanoSine.j0] at h
  | k + 1 => by
    have ih0 := impl_nanoSine.mono_l k
    · intro y0 y1
      unfold impl_nanoSine.j0
      repeat' first
      | (with_reducible exact ih0 _ _)
      | (with_reducible exact LeO.refl _)
      | (with_reducible exact LeO.none _)
      | (with_reducible refine LeO.ite ?_ ?_)
      | (with_reducible refine LeO.bind ?_ (fun _ => ?_))
      | exact ih0 _ _
      | exact LeO.none _
      | refine LeO.ite ?_ ?_
      | refine LeO.bind ?_ (fun _ => ?_)
theorem impl_nanoSine.mono : ∀ a0 k, LeO (impl_nanoSine.f k a0) (impl_nanoSine.f (k + 1) a0) := by
  intro a0 k
  have ih0 := impl_nanoSine.mono_l k
  unfold impl_nanoSine.f
  repeat' first
      | (with_reducible exact ih0 _ _)
      | (with_reducible exact LeO.refl _)
      | (with_reducible exact LeO.none _)
      | (with_reducible refine LeO.ite ?_ ?_)
      | (with_reducible refine LeO.bind ?_ (fun _ => ?_))
      | exact ih0 _ _
      | exact LeO.none _
      | refine LeO.ite ?_ ?_
      | refine LeO.bind ?_ (fun _ => ?_)
set_option maxHeartbeats 8000000 in
set_option maxRecDepth 100000 in
theorem impl_nanoSine.calls (k : Nat) (a0 : Int) (r : Int) (w : World) (h : impl_nanoSine.f k a0 = some r) :
    Calls Try.prog 61 #[.int .i64 a0] w fun e w' => e = .returned (.int .i64 r) ∧ Drawn0 w w' := by
  have H : ((impl_plain.f a0).bind fun t135 => (if (Int.tmod (wrap64 (Int.tdiv t135 324000)) 2) = 1 then (impl_nanoSine.j0 k (wrap64 (Int.tdiv t135 324000)) (wrap64 (324000 - (Int.tmod t135 324000)))) else (impl_nanoSine.j0 k (wrap64 (Int.tdiv t135 324000)) (Int.tmod t135 324000)))) = some r := h
  clear h
  replace H := Option.bind_eq_some_iff.mp H
  obtain ⟨t135, A20, H⟩ := H
  replace H : (if (Int.tmod (wrap64 (Int.tdiv t135 324000)) 2) = 1 then (impl_nanoSine.j0 k (wrap64 (Int.tdiv t135 324000)) (wrap64 (324000 - (Int.tmod t135 324000)))) else (impl_nanoSine.j0 k (wrap64 (Int.tdiv t135 324000)) (Int.tmod t135 324000))) = some r := H
  have A2 := Aside0.mk A20
  clear A20
  have HC3 := Aside0.mk H
  clear H
  go_enter Try.func61, Try.ntmps61
  go_upto_if 15 with (first | ((with_reducible refine gate_callee (f := 95) rfl ?_); refine goesL_ (some 8) rfl rfl Try.func95 (by kernel_rfl) rfl #[.int .i64 a0] rfl (by (try simp only [List.map_toArray, List.map_cons, List.map_nil]); first | done | rfl | (simp only [List.length_drop, List.length_take]; rfl)) ?_; (with_reducible refine (impl_plain.calls a0 t135 _ A2.out).mono ?_); rintro e w' ⟨rfl, ⟨nd, rfl⟩⟩; refine ⟨_, rfl, ?_⟩))
  (try simp only [Act.put, List.setIfInBounds_toArray, List.set_cons_zero, List.set_cons_succ])
  go_cut [5] (fun v5 wc => ∃ (kq : Nat) (x5_2 : Int), v5 = .int .i64 x5_2 ∧ Aside0 (impl_nanoSine.j0 kq (wrap64 (Int.tdiv t135 324000)) x5_2 = some r) ∧ Aside0 (kq ≤ k) ∧ Drawn0 w wc)
  case first =>
    have H := HC3.out
    clear HC3
    by_cases c4 : (Int.tmod (wrap64 (Int.tdiv t135 324000)) 2) = 1
    · rw [if_pos c4] at H
      have c4b0 : ((Int.tmod (wrap64 (Int.tdiv t135 324000)) 2) == 1) = true := beq_iff_eq.mpr c4
      have c4b1 : ((Int.tmod (wrap64 (Int.tdiv t135 324000)) 2) != 1) = false := bne_eq_false_iff_eq.mpr c4
      clear c4
      (first | rw [c4b0] | (simp only [i64_w, i32_w]; rw [c4b0]) | skip)
      have H' := Aside0.mk H
      clear H
      go_wp2
      go_meet
      case rel => exact ⟨_, (wrap64 (324000 - (Int.tmod t135 324000))), (by first | rfl | (simp; done) | (simp [*]; done)), H', ⟨by first | omega | exact Nat.le_refl _⟩, by repeat (first | exact Drawn0.refl _ | apply Drawn0.step)⟩
    · rw [if_neg c4] at H
      have c4b0 : ((Int.tmod (wrap64 (Int.tdiv t135 324000)) 2) == 1) = false := beq_eq_false_iff_ne.mpr c4
      have c4b1 : ((Int.tmod (wrap64 (Int.tdiv t135 324000)) 2) != 1) = true := bne_iff_ne.mpr c4
      (first | rw [c4b0] | (simp only [i64_w, i32_w]; rw [c4b0]) | skip)
      have H' := Aside0.mk H
      clear H
      go_wp2
      go_meet
      case rel => exact ⟨_, (Int.tmod t135 324000), (by first | rfl | (simp; done) | (simp [*]; done)), H', ⟨by first | omega | exact Nat.le_refl _⟩, by repeat (first | exact Drawn0.refl _ | apply Drawn0.step)⟩
  case rest =>
    clear HC3
    try clear p2
    try clear c4
    try clear c4b0
    try clear c4b1
    obtain ⟨kq, x5_2, rfl, HA, HJ2, ⟨mc2, rfl⟩⟩ := hcut
    cases kq with
    | zero => exact absurd HA.out (by simp [impl_nanoSine.j0])
    | succ kj2 =>
      have H := HA.out
      clear HA
      simp only [impl_nanoSine.j0] at H
      by_cases c5 : x5_2 ≤ 162000
      · rw [if_pos c5] at H
        have c5b0 : decide (x5_2 ≤ 162000) = true := decide_eq_true c5
        clear c5
        replace H := Option.bind_eq_some_iff.mp H
        obtain ⟨⟨t136, t137⟩, A60, H⟩ := H
        replace H : (if (wrap64 (Int.tdiv t135 324000)) < 2 then (some t136) else (some (wrap64 (-t136)))) = some r := H
        have A6 := Aside0.mk A60
        clear A60
        by_cases c7 : (wrap64 (Int.tdiv t135 324000)) < 2
        · rw [if_pos c7] at H
          have c7b0 : decide ((wrap64 (Int.tdiv t135 324000)) < 2) = true := decide_eq_true c7
          clear c7
          obtain rfl := Option.some.inj H
          go_wp2_with (first | ((with_reducible refine gate_callee (f := 96) rfl ?_); refine goesL_ (some 22) rfl rfl Try.func96 (by kernel_rfl) rfl #[.int .i64 x5_2] rfl (by (try simp only [List.map_toArray, List.map_cons, List.map_nil]); first | done | rfl | (simp only [List.length_drop, List.length_take]; rfl)) ?_; (with_reducible refine (impl_polynomials.calls x5_2 t136 t137 _ A6.out).mono ?_); rintro e w' ⟨rfl, ⟨nd, rfl⟩⟩; refine ⟨_, rfl, ?_⟩))
          go_ret
          exact ⟨by first | rfl | (simp; done) | (simp [*]; done), by repeat (first | exact Drawn0.refl _ | apply Drawn0.step)⟩
        · rw [if_neg c7] at H
          have c7b0 : decide ((wrap64 (Int.tdiv t135 324000)) < 2) = false := decide_eq_false c7
          clear c7
          obtain rfl := Option.some.inj H
          go_wp2_with (first | ((with_reducible refine gate_callee (f := 96) rfl ?_); refine goesL_ (some 22) rfl rfl Try.func96 (by kernel_rfl) rfl #[.int .i64 x5_2] rfl (by (try simp only [List.map_toArray, List.map_cons, List.map_nil]); first | done | rfl | (simp only [List.length_drop, List.length_take]; rfl)) ?_; (with_reducible refine (impl_polynomials.calls x5_2 t136 t137 _ A6.out).mono ?_); rintro e w' ⟨rfl, ⟨nd, rfl⟩⟩; refine ⟨_, rfl, ?_⟩))
          go_ret
          exact ⟨by first | rfl | (simp; done) | (simp [*]; done), by repeat (first | exact Drawn0.refl _ | apply Drawn0.step)⟩
      · rw [if_neg c5] at H
        have c5b0 : decide (x5_2 ≤ 162000) = false := decide_eq_false c5
        clear c5
        replace H := Option.bind_eq_some_iff.mp H
        obtain ⟨⟨t138, t139⟩, A80, H⟩ := H
        replace H : (if (wrap64 (Int.tdiv t135 324000)) < 2 then (some t139) else (some (wrap64 (-t139)))) = some r := H
        have A8 := Aside0.mk A80
        clear A80
        by_cases c9 : (wrap64 (Int.tdiv t135 324000)) < 2
        · rw [if_pos c9] at H
          have c9b0 : decide ((wrap64 (Int.tdiv t135 324000)) < 2) = true := decide_eq_true c9
          clear c9
          obtain rfl := Option.some.inj H
          go_wp2_with (first | ((with_reducible refine gate_callee (f := 96) rfl ?_); refine goesL_ (some 28) rfl rfl Try.func96 (by kernel_rfl) rfl #[.int .i64 (wrap64 (324000 - x5_2))] rfl (by (try simp only [List.map_toArray, List.map_cons, List.map_nil]); first | done | rfl | (simp only [List.length_drop, List.length_take]; rfl)) ?_; (with_reducible refine (impl_polynomials.calls (wrap64 (324000 - x5_2)) t138 t139 _ A8.out).mono ?_); rintro e w' ⟨rfl, ⟨nd, rfl⟩⟩; refine ⟨_, rfl, ?_⟩))
          go_ret
          exact ⟨by first | rfl | (simp; done) | (simp [*]; done), by repeat (first | exact Drawn0.refl _ | apply Drawn0.step)⟩
        · rw [if_neg c9] at H
          have c9b0 : decide ((wrap64 (Int.tdiv t135 324000)) < 2) = false := decide_eq_false c9
          clear c9
          obtain rfl := Option.some.inj H
          go_wp2_with (first | ((with_reducible refine gate_callee (f := 96) rfl ?_); refine goesL_ (some 28) rfl rfl Try.func96 (by kernel_rfl) rfl #[.int .i64 (wrap64 (324000 - x5_2))] rfl (by (try simp only [List.map_toArray, List.map_cons, List.map_nil]); first | done | rfl | (simp only [List.length_drop, List.length_take]; rfl)) ?_; (with_reducible refine (impl_polynomials.calls (wrap64 (324000 - x5_2)) t138 t139 _ A8.out).mono ?_); rintro e w' ⟨rfl, ⟨nd, rfl⟩⟩; refine ⟨_, rfl, ?_⟩))
          go_ret
          exact ⟨by first | rfl | (simp; done) | (simp [*]; done), by repeat (first | exact Drawn0.refl _ | apply Drawn0.step)⟩

/-! ### impl_meanLongitude: function 108 -/
def impl_meanLongitude.f (a0 : Int) : Option (Int) := (impl_floor.f (wrap64 (a0 * 354833064)) 100000).bind fun t140 => ((impl_plain.f (wrap64 (1009656 + t140))).bind fun t141 => (some t141))
set_option maxHeartbeats 8000000 in
set_option maxRecDepth 100000 in
theorem impl_meanLongitude.calls (a0 : Int) (r : Int) (w : World) (h : impl_meanLongitude.f a0 = some r) :
    Calls Try.prog 108 #[.int .i64 a0] w fun e w' => e = .returned (.int .i64 r) ∧ Drawn0 w w' := by
  have H : ((impl_floor.f (wrap64 (a0 * 354833064)) 100000).bind fun t140 => ((impl_plain.f (wrap64 (1009656 + t140))).bind fun t141 => (some t141))) = some r := h
  clear h
  replace H := Option.bind_eq_some_iff.mp H
  obtain ⟨t140, A20, H⟩ := H
  replace H : ((impl_plain.f (wrap64 (1009656 + t140))).bind fun t141 => (some t141)) = some r := H
  have A2 := Aside0.mk A20
  clear A20
  replace H := Option.bind_eq_some_iff.mp H
  obtain ⟨t141, A30, H⟩ := H
  replace H : (some t141) = some r := H
  have A3 := Aside0.mk A30
  clear A30
  obtain rfl := Option.some.inj H
  go_enter Try.func108, Try.ntmps108
  go_wp2_with (first | ((with_reducible refine gate_callee (f := 90) rfl ?_); refine goesL_ (some 5) rfl rfl Try.func90 (by kernel_rfl) rfl #[.int .i64 (wrap64 (a0 * 354833064)), .int .i64 100000] rfl (by (try simp only [List.map_toArray, List.map_cons, List.map_nil]); first | done | rfl | (simp only [List.length_drop, List.length_take]; rfl)) ?_; (with_reducible refine (impl_floor.calls (wrap64 (a0 * 354833064)) 100000 t140 _ A2.out).mono ?_); rintro e w' ⟨rfl, ⟨nd, rfl⟩⟩; refine ⟨_, rfl, ?_⟩) | ((with_reducible refine gate_callee (f := 95) rfl ?_); refine goesL_ (some 7) rfl rfl Try.func95 (by kernel_rfl) rfl #[.int .i64 (wrap64 (1009656 + t140))] rfl (by (try simp only [List.map_toArray, List.map_cons, List.map_nil]); first | done | rfl | (simp only [List.length_drop, List.length_take]; rfl)) ?_; (with_reducible refine (impl_plain.calls (wrap64 (1009656 + t140)) t141 _ A3.out).mono ?_); rintro e w' ⟨rfl, ⟨nd, rfl⟩⟩; refine ⟨_, rfl, ?_⟩))
  go_ret
  exact ⟨by first | rfl | (simp; done) | (simp [*]; done), by repeat (first | exact Drawn0.refl _ | apply Drawn0.step)⟩

/-! ### impl_sunLongitude: function 79 -/
def impl_sunLongitude.f (k : Nat) (a0 : Int) : Option (Int) := (impl_floor.f (wrap64 (a0 * 354816108)) 100000).bind fun t142 => ((impl_plain.f (wrap64 (1287101 + t142))).bind fun t143 => ((impl_meanLongitude.f a0).bind fun t144 => ((impl_nanoSine.f k t143).bind fun t145 => ((impl_nanoSine.f k (wrap64 (2 * t143))).bind fun t146 => ((impl_nearest.f (wrap64 ((wrap64 (6894 * t145)) + (wrap64 (72 * t146)))) 1000000000).bind fun t147 => ((impl_plain.f (wrap64 (t144 + t147))).bind fun t148 => (some t148)))))))
theorem impl_sunLongitude.mono : ∀ a0 k, LeO (impl_sunLongitude.f k a0) (impl_sunLongitude.f (k + 1) a0) := by
  intro a0 k
  unfold impl_sunLongitude.f
  repeat' first
      | (with_reducible exact impl_nanoSine.mono _ _)
      | (with_reducible exact LeO.refl _)
      | (with_reducible exact LeO.none _)
      | (with_reducible refine LeO.ite ?_ ?_)
      | (with_reducible refine LeO.bind ?_ (fun _ => ?_))
      | exact impl_nanoSine.mono _ _
      | exact LeO.none _
      | refine LeO.ite ?_ ?_
      | refine LeO.bind ?_ (fun _ => ?_)
set_option maxHeartbeats 8000000 in
set_option maxRecDepth 100000 in
theorem impl_sunLongitude.calls (k : Nat) (a0 : Int) (r : Int) (w : World) (h : impl_sunLongitude.f k a0 = some r) :
    Calls Try.prog 79 #[.int .i64 a0] w fun e w' => e = .returned (.int .i64 r) ∧ Drawn0 w w' := by
  have H : ((impl_floor.f (wrap64 (a0 * 354816108)) 100000).bind fun t142 => ((impl_plain.f (wrap64 (1287101 + t142))).bind fun t143 => ((impl_meanLongitude.f a0).bind fun t144 => ((impl_nanoSine.f k t143).bind fun t145 => ((impl_nanoSine.f k (wrap64 (2 * t143))).bind fun t146 => ((impl_nearest.f (wrap64 ((wrap64 (6894 * t145)) + (wrap64 (72 * t146)))) 1000000000).bind fun t147 => ((impl_plain.f (wrap64 (t144 + t147))).bind fun t148 => (some t148)))))))) = some r := h
  clear h
  replace H := Option.bind_eq_some_iff.mp H
  obtain ⟨t142, A20, H⟩ := H
  replace H : ((impl_plain.f (wrap64 (1287101 + t142))).bind fun t143 => ((impl_meanLongitude.f a0).bind fun t144 => ((impl_nanoSine.f k t143).bind fun t145 => ((impl_nanoSine.f k (wrap64 (2 * t143))).bind fun t146 => ((impl_nearest.f (wrap64 ((wrap64 (6894 * t145)) + (wrap64 (72 * t146)))) 1000000000).bind fun t147 => ((impl_plain.f (wrap64 (t144 + t147))).bind fun t148 => (some t148))))))) = some r := H
  have A2 := Aside0.mk A20
  clear A20
  replace H := Option.bind_eq_some_iff.mp H
  obtain ⟨t143, A30, H⟩ := H
  replace H : ((impl_meanLongitude.f a0).bind fun t144 => ((impl_nanoSine.f k t143).bind fun t145 => ((impl_nanoSine.f k (wrap64 (2 * t143))).bind fun t146 => ((impl_nearest.f (wrap64 ((wrap64 (6894 * t145)) + (wrap64 (72 * t146)))) 1000000000).bind fun t147 => ((impl_plain.f (wrap64 (t144 + t147))).bind fun t148 => (some t148)))))) = some r := H
  have A3 := Aside0.mk A30
  clear A30
  replace H := Option.bind_eq_some_iff.mp H
  obtain ⟨t144, A40, H⟩ := H
  replace H : ((impl_nanoSine.f k t143).bind fun t145 => ((impl_nanoSine.f k (wrap64 (2 * t143))).bind fun t146 => ((impl_nearest.f (wrap64 ((wrap64 (6894 * t145)) + (wrap64 (72 * t146)))) 1000000000).bind fun t147 => ((impl_plain.f (wrap64 (t144 + t147))).bind fun t148 => (some t148))))) = some r := H
  have A4 := Aside0.mk A40
  clear A40
  replace H := Option.bind_eq_some_iff.mp H
  obtain ⟨t145, A50, H⟩ := H
  replace H : ((impl_nanoSine.f k (wrap64 (2 * t143))).bind fun t146 => ((impl_nearest.f (wrap64 ((wrap64 (6894 * t145)) + (wrap64 (72 * t146)))) 1000000000).bind fun t147 => ((impl_plain.f (wrap64 (t144 + t147))).bind fun t148 => (some t148)))) = some r := H
  have A5 := Aside0.mk A50
  clear A50
  replace H := Option.bind_eq_some_iff.mp H
  obtain ⟨t146, A60, H⟩ := H
  replace H : ((impl_nearest.f (wrap64 ((wrap64 (6894 * t145)) + (wrap64 (72 * t146)))) 1000000000).bind fun t147 => ((impl_plain.f (wrap64 (t144 + t147))).bind fun t148 => (some t148))) = some r := H
  have A6 := Aside0.mk A60
  clear A60
  replace H := Option.bind_eq_some_iff.mp H
  obtain ⟨t147, A70, H⟩ := H
  replace H : ((impl_plain.f (wrap64 (t144 + t147))).bind fun t148 => (some t148)) = some r := H
  have A7 := Aside0.mk A70
  clear A70
  replace H := Option.bind_eq_some_iff.mp H
  obtain ⟨t148, A80, H⟩ := H
  replace H : (some t148) = some r := H
  have A8 := Aside0.mk A80
  clear A80
  obtain rfl := Option.some.inj H
  go_enter Try.func79, Try.ntmps79
  go_wp2_with (first | ((with_reducible refine gate_callee (f := 90) rfl ?_); refine goesL_ (some 6) rfl rfl Try.func90 (by kernel_rfl) rfl #[.int .i64 (wrap64 (a0 * 354816108)), .int .i64 100000] rfl (by (try simp only [List.map_toArray, List.map_cons, List.map_nil]); first | done | rfl | (simp only [List.length_drop, List.length_take]; rfl)) ?_; (with_reducible refine (impl_floor.calls (wrap64 (a0 * 354816108)) 100000 t142 _ A2.out).mono ?_); rintro e w' ⟨rfl, ⟨nd, rfl⟩⟩; refine ⟨_, rfl, ?_⟩) | ((with_reducible refine gate_callee (f := 95) rfl ?_); refine goesL_ (some 8) rfl rfl Try.func95 (by kernel_rfl) rfl #[.int .i64 (wrap64 (1287101 + t142))] rfl (by (try simp only [List.map_toArray, List.map_cons, List.map_nil]); first | done | rfl | (simp only [List.length_drop, List.length_take]; rfl)) ?_; (with_reducible refine (impl_plain.calls (wrap64 (1287101 + t142)) t143 _ A3.out).mono ?_); rintro e w' ⟨rfl, ⟨nd, rfl⟩⟩; refine ⟨_, rfl, ?_⟩) | ((with_reducible refine gate_callee (f := 108) rfl ?_); refine goesL_ (some 10) rfl rfl Try.func108 (by kernel_rfl) rfl #[.int .i64 a0] rfl (by (try simp only [List.map_toArray, List.map_cons, List.map_nil]); first | done | rfl | (simp only [List.length_drop, List.length_take]; rfl)) ?_; (with_reducible refine (impl_meanLongitude.calls a0 t144 _ A4.out).mono ?_); rintro e w' ⟨rfl, ⟨nd, rfl⟩⟩; refine ⟨_, rfl, ?_⟩) | ((with_reducible refine gate_callee (f := 61) rfl ?_); refine goesL_ (some 12) rfl rfl Try.func61 (by kernel_rfl) rfl #[.int .i64 t143] rfl (by (try simp only [List.map_toArray, List.map_cons, List.map_nil]); first | done | rfl | (simp only [List.length_drop, List.length_take]; rfl)) ?_; (with_reducible refine (impl_nanoSine.calls k t143 t145 _ A5.out).mono ?_); rintro e w' ⟨rfl, ⟨nd, rfl⟩⟩; refine ⟨_, rfl, ?_⟩) | ((with_reducible refine gate_callee (f := 61) rfl ?_); refine goesL_ (some 16) rfl rfl Try.func61 (by kernel_rfl) rfl #[.int .i64 (wrap64 (2 * t143))] rfl (by (try simp only [List.map_toArray, List.map_cons, List.map_nil]); first | done | rfl | (simp only [List.length_drop, List.length_take]; rfl)) ?_; (with_reducible refine (impl_nanoSine.calls k (wrap64 (2 * t143)) t146 _ A6.out).mono ?_); rintro e w' ⟨rfl, ⟨nd, rfl⟩⟩; refine ⟨_, rfl, ?_⟩) | ((with_reducible refine gate_callee (f := 59) rfl ?_); refine goesL_ (some 19) rfl rfl Try.func59 (by kernel_rfl) rfl #[.int .i64 (wrap64 ((wrap64 (6894 * t145)) + (wrap64 (72 * t146)))), .int .i64 1000000000] rfl (by (try simp only [List.map_toArray, List.map_cons, List.map_nil]); first | done | rfl | (simp only [List.length_drop, List.length_take]; rfl)) ?_; (with_reducible refine (impl_nearest.calls (wrap64 ((wrap64 (6894 * t145)) + (wrap64 (72 * t146)))) 1000000000 t147 _ A7.out).mono ?_); rintro e w' ⟨rfl, ⟨nd, rfl⟩⟩; refine ⟨_, rfl, ?_⟩) | ((with_reducible refine gate_callee (f := 95) rfl ?_); refine goesL_ (some 21) rfl rfl Try.func95 (by kernel_rfl) rfl #[.int .i64 (wrap64 (t144 + t147))] rfl (by (try simp only [List.map_toArray, List.map_cons, List.map_nil]); first | done | rfl | (simp only [List.length_drop, List.length_take]; rfl)) ?_; (with_reducible refine (impl_plain.calls (wrap64 (t144 + t147)) t148 _ A8.out).mono ?_); rintro e w' ⟨rfl, ⟨nd, rfl⟩⟩; refine ⟨_, rfl, ?_⟩))
  go_ret
  exact ⟨by first | rfl | (simp; done) | (simp [*]; done), by repeat (first | exact Drawn0.refl _ | apply Drawn0.step)⟩

/-! ### impl_SignOf: function 36 -/
def impl_SignOf.f (k : Nat) (a0 : Int) : Option (Int × Int) := (impl_isDayNumber.f k a0).bind fun t149 => (if t149 = true then ((impl_sunLongitude.f k a0).bind fun t150 => (some (wrap64 (Int.tdiv t150 108000), 0))) else (some (0, 2)))
theorem impl_SignOf.mono : ∀ a0 k, LeO (impl_SignOf.f k a0) (impl_SignOf.f (k + 1) a0) := by
  intro a0 k
  unfold impl_SignOf.f
  repeat' first
      | (with_reducible exact impl_isDayNumber.mono _ _)
      | (with_reducible exact impl_sunLongitude.mono _ _)
      | (with_reducible exact LeO.refl _)
      | (with_reducible exact LeO.none _)
      | (with_reducible refine LeO.ite ?_ ?_)
      | (with_reducible refine LeO.bind ?_ (fun _ => ?_))
      | exact impl_isDayNumber.mono _ _
      | exact impl_sunLongitude.mono _ _
      | exact LeO.none _
      | refine LeO.ite ?_ ?_
      | refine LeO.bind ?_ (fun _ => ?_)
set_option maxHeartbeats 8000000 in
set_option maxRecDepth 100000 in
theorem impl_SignOf.calls (k : Nat) (a0 : Int) (r1 : Int) (r2 : Int) (w : World) (h : impl_SignOf.f k a0 = some (r1, r2)) :
    Calls Try.prog 36 #[.int .i64 a0] w fun e w' => e = .returned (.tuple #[.int .i64 r1, .int .i64 r2]) ∧ Below w.heap.size w w' := by
  have HB := Aside0.mk (Below.refl w.heap.size w)
  have H : ((impl_isDayNumber.f k a0).bind fun t149 => (if t149 = true then ((impl_sunLongitude.f k a0).bind fun t150 => (some (wrap64 (Int.tdiv t150 108000), 0))) else (some (0, 2)))) = some (r1, r2) := h
  clear h
  replace H := Option.bind_eq_some_iff.mp H
  obtain ⟨t149, A20, H⟩ := H
  replace H : (if t149 = true then ((impl_sunLongitude.f k a0).bind fun t150 => (some (wrap64 (Int.tdiv t150 108000), 0))) else (some (0, 2))) = some (r1, r2) := H
  have A2 := Aside0.mk A20
  clear A20
  by_cases c3 : t149 = true
  · subst c3
    have H1 : ((impl_sunLongitude.f k a0).bind fun t150 => (some (wrap64 (Int.tdiv t150 108000), 0))) = some (r1, r2) := by rw [if_pos rfl] at H; exact H
    clear H
    have H := H1
    clear H1
    replace H := Option.bind_eq_some_iff.mp H
    obtain ⟨t150, A40, H⟩ := H
    replace H : (some (wrap64 (Int.tdiv t150 108000), 0)) = some (r1, r2) := H
    have A4 := Aside0.mk A40
    clear A40
    simp only [Option.some.injEq, Prod.mk.injEq] at H
    obtain ⟨rfl, rfl⟩ := H
    go_enter Try.func36, Try.ntmps36
    go_wp2_with (first | ((with_reducible refine gate_callee (f := 78) rfl ?_); refine goesL_ (some 5) rfl rfl Try.func78 (by kernel_rfl) rfl #[.int .i64 a0] rfl (by (try simp only [List.map_toArray, List.map_cons, List.map_nil]); first | done | rfl | (simp only [List.length_drop, List.length_take]; rfl)) ?_; (with_reducible refine (impl_isDayNumber.calls k a0 true _ A2.out).mono ?_); rintro e w5 ⟨rfl, hb⟩; refine ⟨_, rfl, ?_⟩; have n0_ := Aside0.mk (below_step (by repeat (first | (with_reducible first | exact HB.out | apply below_alloc | apply pw_below_drewN | apply below_drew1) | exact HB.out)) hb); clear HB; have HB := n0_; clear n0_; (try clear hb); (try clear hb2); (try clear hk); (try clear hi)) | ((with_reducible refine gate_callee (f := 79) rfl ?_); refine goesL_ (some 8) rfl rfl Try.func79 (by kernel_rfl) rfl #[.int .i64 a0] rfl (by (try simp only [List.map_toArray, List.map_cons, List.map_nil]); first | done | rfl | (simp only [List.length_drop, List.length_take]; rfl)) ?_; (with_reducible refine (impl_sunLongitude.calls k a0 t150 _ A4.out).mono ?_); rintro e w' ⟨rfl, ⟨nd, rfl⟩⟩; refine ⟨_, rfl, ?_⟩))
    go_ret2
    exact ⟨by first | rfl | (simp [errW_none, errW_some] <;> rfl) | (simp [*, errW_none, errW_some] <;> rfl), by repeat (first | (with_reducible first | exact HB.out | apply below_alloc | apply pw_below_drewN | apply below_drew1) | exact HB.out)⟩
  · replace c3 := Bool.eq_false_iff.mpr c3
    subst c3
    have H1 : (some (0, 2)) = some (r1, r2) := by rw [if_neg (show ¬ (false = true) by decide)] at H; exact H
    clear H
    have H := H1
    clear H1
    simp only [Option.some.injEq, Prod.mk.injEq] at H
    obtain ⟨rfl, rfl⟩ := H
    go_enter Try.func36, Try.ntmps36
    go_wp2_with (first | ((with_reducible refine gate_callee (f := 78) rfl ?_); refine goesL_ (some 5) rfl rfl Try.func78 (by kernel_rfl) rfl #[.int .i64 a0] rfl (by (try simp only [List.map_toArray, List.map_cons, List.map_nil]); first | done | rfl | (simp only [List.length_drop, List.length_take]; rfl)) ?_; (with_reducible refine (impl_isDayNumber.calls k a0 false _ A2.out).mono ?_); rintro e w6 ⟨rfl, hb⟩; refine ⟨_, rfl, ?_⟩; have n0_ := Aside0.mk (below_step (by repeat (first | (with_reducible first | exact HB.out | apply below_alloc | apply pw_below_drewN | apply below_drew1) | exact HB.out)) hb); clear HB; have HB := n0_; clear n0_; (try clear hb); (try clear hb2); (try clear hk); (try clear hi)))
    go_ret2
    exact ⟨by first | rfl | (simp [errW_none, errW_some] <;> rfl) | (simp [*, errW_none, errW_some] <;> rfl), by repeat (first | (with_reducible first | exact HB.out | apply below_alloc | apply pw_below_drewN | apply below_drew1) | exact HB.out)⟩

/-! ### laws_FnExactSignOf: function 11 -/
def laws_FnExactSignOf.f (k : Nat) (a0 : Int) : Option (Bool) := (spec_SignOf.f k a0).bind fun bt151 => ((impl_SignOf.f k a0).bind fun bt153 => (if bt153.1 = bt151.1 then (if bt153.2 = bt151.2 then (some true) else (some false)) else (some false)))
theorem laws_FnExactSignOf.mono : ∀ a0 k, LeO (laws_FnExactSignOf.f k a0) (laws_FnExactSignOf.f (k + 1) a0) := by
  intro a0 k
  unfold laws_FnExactSignOf.f
  repeat' first
      | (with_reducible exact impl_SignOf.mono _ _)
      | (with_reducible exact spec_SignOf.mono _ _)
      | (with_reducible exact LeO.refl _)
      | (with_reducible exact LeO.none _)
      | (with_reducible refine LeO.ite ?_ ?_)
      | (with_reducible refine LeO.bind ?_ (fun _ => ?_))
      | exact impl_SignOf.mono _ _
      | exact spec_SignOf.mono _ _
      | exact LeO.none _
      | refine LeO.ite ?_ ?_
      | refine LeO.bind ?_ (fun _ => ?_)
set_option maxHeartbeats 8000000 in
set_option maxRecDepth 100000 in
theorem laws_FnExactSignOf.calls (k : Nat) (a0 : Int) (r : Bool) (w : World) (h : laws_FnExactSignOf.f k a0 = some r) :
    Calls Try.prog 11 #[.int .i64 a0] w fun e w' => e = .returned (.bool r) ∧ Below w.heap.size w w' := by
  have HB := Aside0.mk (Below.refl w.heap.size w)
  have H : ((spec_SignOf.f k a0).bind fun bt151 => ((impl_SignOf.f k a0).bind fun bt153 => (if bt153.1 = bt151.1 then (if bt153.2 = bt151.2 then (some true) else (some false)) else (some false)))) = some r := h
  clear h
  replace H := Option.bind_eq_some_iff.mp H
  obtain ⟨⟨t151, t152⟩, A20, H⟩ := H
  replace H : ((impl_SignOf.f k a0).bind fun bt153 => (if bt153.1 = t151 then (if bt153.2 = t152 then (some true) else (some false)) else (some false))) = some r := H
  have A2 := Aside0.mk A20
  clear A20
  replace H := Option.bind_eq_some_iff.mp H
  obtain ⟨⟨t153, t154⟩, A30, H⟩ := H
  replace H : (if t153 = t151 then (if t154 = t152 then (some true) else (some false)) else (some false)) = some r := H
  have A3 := Aside0.mk A30
  clear A30
  by_cases c4 : t153 = t151
  · rw [if_pos c4] at H
    have c4b0 : (t153 == t151) = true := beq_iff_eq.mpr c4
    have c4b1 : (t153 != t151) = false := bne_eq_false_iff_eq.mpr c4
    clear c4
    by_cases c5 : t154 = t152
    · rw [if_pos c5] at H
      have c5b0 : (t154 == t152) = true := beq_iff_eq.mpr c5
      have c5b1 : (t154 != t152) = false := bne_eq_false_iff_eq.mpr c5
      clear c5
      obtain rfl := Option.some.inj H
      go_enter Try.func11, Try.ntmps11
      go_wp2_with (first | ((with_reducible refine gate_callee (f := 35) rfl ?_); refine goesL_ (some 9) rfl rfl Try.func35 (by kernel_rfl) rfl #[.int .i64 a0] rfl (by (try simp only [List.map_toArray, List.map_cons, List.map_nil]); first | done | rfl | (simp only [List.length_drop, List.length_take]; rfl)) ?_; (with_reducible refine (spec_SignOf.calls k a0 t151 t152 _ A2.out).mono ?_); rintro e w' ⟨rfl, ⟨nd, rfl⟩⟩; refine ⟨_, rfl, ?_⟩) | ((with_reducible refine gate_callee (f := 36) rfl ?_); refine goesL_ (some 14) rfl rfl Try.func36 (by kernel_rfl) rfl #[.int .i64 a0] rfl (by (try simp only [List.map_toArray, List.map_cons, List.map_nil]); first | done | rfl | (simp only [List.length_drop, List.length_take]; rfl)) ?_; (with_reducible refine (impl_SignOf.calls k a0 t153 t154 _ A3.out).mono ?_); rintro e w6 ⟨rfl, hb⟩; refine ⟨_, rfl, ?_⟩; have n0_ := Aside0.mk (below_step (by repeat (first | (with_reducible first | exact HB.out | apply below_alloc | apply pw_below_drewN | apply below_drew1) | exact HB.out)) hb); clear HB; have HB := n0_; clear n0_; (try clear hb); (try clear hb2); (try clear hk); (try clear hi)))
      go_ret
      exact ⟨by first | rfl | (simp [errW_none, errW_some] <;> rfl) | (simp [*, errW_none, errW_some] <;> rfl), by repeat (first | (with_reducible first | exact HB.out | apply below_alloc | apply pw_below_drewN | apply below_drew1) | exact HB.out)⟩
    · rw [if_neg c5] at H
      have c5b0 : (t154 == t152) = false := beq_eq_false_iff_ne.mpr c5
      have c5b1 : (t154 != t152) = true := bne_iff_ne.mpr c5
      obtain rfl := Option.some.inj H
      go_enter Try.func11, Try.ntmps11
      go_wp2_with (first | ((with_reducible refine gate_callee (f := 35) rfl ?_); refine goesL_ (some 9) rfl rfl Try.func35 (by kernel_rfl) rfl #[.int .i64 a0] rfl (by (try simp only [List.map_toArray, List.map_cons, List.map_nil]); first | done | rfl | (simp only [List.length_drop, List.length_take]; rfl)) ?_; (with_reducible refine (spec_SignOf.calls k a0 t151 t152 _ A2.out).mono ?_); rintro e w' ⟨rfl, ⟨nd, rfl⟩⟩; refine ⟨_, rfl, ?_⟩) | ((with_reducible refine gate_callee (f := 36) rfl ?_); refine goesL_ (some 14) rfl rfl Try.func36 (by kernel_rfl) rfl #[.int .i64 a0] rfl (by (try simp only [List.map_toArray, List.map_cons, List.map_nil]); first | done | rfl | (simp only [List.length_drop, List.length_take]; rfl)) ?_; (with_reducible refine (impl_SignOf.calls k a0 t153 t154 _ A3.out).mono ?_); rintro e w7 ⟨rfl, hb⟩; refine ⟨_, rfl, ?_⟩; have n0_ := Aside0.mk (below_step (by repeat (first | (with_reducible first | exact HB.out | apply below_alloc | apply pw_below_drewN | apply below_drew1) | exact HB.out)) hb); clear HB; have HB := n0_; clear n0_; (try clear hb); (try clear hb2); (try clear hk); (try clear hi)))
      go_ret
      exact ⟨by first | rfl | (simp [errW_none, errW_some] <;> rfl) | (simp [*, errW_none, errW_some] <;> rfl), by repeat (first | (with_reducible first | exact HB.out | apply below_alloc | apply pw_below_drewN | apply below_drew1) | exact HB.out)⟩
  · rw [if_neg c4] at H
    have c4b0 : (t153 == t151) = false := beq_eq_false_iff_ne.mpr c4
    have c4b1 : (t153 != t151) = true := bne_iff_ne.mpr c4
    obtain rfl := Option.some.inj H
    go_enter Try.func11, Try.ntmps11
    go_wp2_with (first | ((with_reducible refine gate_callee (f := 35) rfl ?_); refine goesL_ (some 9) rfl rfl Try.func35 (by kernel_rfl) rfl #[.int .i64 a0] rfl (by (try simp only [List.map_toArray, List.map_cons, List.map_nil]); first | done | rfl | (simp only [List.length_drop, List.length_take]; rfl)) ?_; (with_reducible refine (spec_SignOf.calls k a0 t151 t152 _ A2.out).mono ?_); rintro e w' ⟨rfl, ⟨nd, rfl⟩⟩; refine ⟨_, rfl, ?_⟩) | ((with_reducible refine gate_callee (f := 36) rfl ?_); refine goesL_ (some 14) rfl rfl Try.func36 (by kernel_rfl) rfl #[.int .i64 a0] rfl (by (try simp only [List.map_toArray, List.map_cons, List.map_nil]); first | done | rfl | (simp only [List.length_drop, List.length_take]; rfl)) ?_; (with_reducible refine (impl_SignOf.calls k a0 t153 t154 _ A3.out).mono ?_); rintro e w8 ⟨rfl, hb⟩; refine ⟨_, rfl, ?_⟩; have n0_ := Aside0.mk (below_step (by repeat (first | (with_reducible first | exact HB.out | apply below_alloc | apply pw_below_drewN | apply below_drew1) | exact HB.out)) hb); clear HB; have HB := n0_; clear n0_; (try clear hb); (try clear hb2); (try clear hk); (try clear hi)))
    go_ret
    exact ⟨by first | rfl | (simp [errW_none, errW_some] <;> rfl) | (simp [*, errW_none, errW_some] <;> rfl), by repeat (first | (with_reducible first | exact HB.out | apply below_alloc | apply pw_below_drewN | apply below_drew1) | exact HB.out)⟩

/-- THE ONE PURE STATEMENT of laws_FnExactSignOf: yours. -/
def laws_FnExactSignOf.Pure : Prop := ∀ (a0 : Int), (Lit.int .i64 a0).wf = true → ∃ k, laws_FnExactSignOf.f k a0 = some true
theorem laws_FnExactSignOf.walk (P : laws_FnExactSignOf.Pure) (a0 : Int) (w : World) (w0 : (Lit.int .i64 a0).wf = true) :
    Calls Try.prog 11 #[.int .i64 a0] w fun e w' => e = .returned (.bool true) ∧ Below w.heap.size w w' := by
  obtain ⟨k, h⟩ := P a0 w0
  refine (laws_FnExactSignOf.calls k a0 true w h).mono ?_
  rintro e w' ⟨rfl, hd⟩
  exact ⟨rfl, hd⟩

end Go.Proofs.Ytllapjemdegnjaa.PFnExactSignOf
