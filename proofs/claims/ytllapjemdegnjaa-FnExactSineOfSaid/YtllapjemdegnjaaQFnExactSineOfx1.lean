-- The machine's side of the law FnExactSineOf: functions and their walks, made by q.py out of the kit's own print.
import Derived.Test.YtllapjemdegnjaaQFnExactSineOfx0
namespace Go.Proofs.Ytllapjemdegnjaa.PFnExactSineOf
open Go.RowKit Go.Proofs.YtllapjemdegnjaaW.PrintWords Go.Proofs.YtllapjemdegnjaaW.PrintLast Go.Proofs.YtllapjemdegnjaaW.PrintMore
attribute [local go_sem] max2_int min2_int max_two min_two max_three min_three max_four min_four   -- for this text's walks alone
set_option linter.unusedVariables false
set_option linter.unusedSimpArgs false

/-! ### spec_l01In: function 53 -/
def spec_l01In.f (a0 : Int) (a1 : Int) (a2 : Int) : Option (Bool) := if a0 ≥ a1 then (some (decide (a0 ≤ a2))) else (some false)
set_option maxHeartbeats 8000000 in
set_option maxRecDepth 100000 in
theorem spec_l01In.calls (a0 : Int) (a1 : Int) (a2 : Int) (r : Bool) (w : World) (h : spec_l01In.f a0 a1 a2 = some r) :
    Calls Try.prog 53 #[.int .i64 a0, .int .i64 a1, .int .i64 a2] w fun e w' => e = .returned (.bool r) ∧ Drawn0 w w' := by
  have H : (if a0 ≥ a1 then (some (decide (a0 ≤ a2))) else (some false)) = some r := h
  clear h
  by_cases c4 : a0 ≥ a1
  · rw [if_pos c4] at H
    have c4b0 : decide (a1 ≤ a0) = true := decide_eq_true c4
    clear c4
    obtain rfl := Option.some.inj H
    go_enter Try.func53, Try.ntmps53
    go_wp2
    go_ret
    exact ⟨by first | rfl | (simp; done) | (simp [*]; done), by repeat (first | exact Drawn0.refl _ | apply Drawn0.step)⟩
  · rw [if_neg c4] at H
    have c4b0 : decide (a1 ≤ a0) = false := decide_eq_false c4
    clear c4
    obtain rfl := Option.some.inj H
    go_enter Try.func53, Try.ntmps53
    go_wp2
    go_ret
    exact ⟨by first | rfl | (simp; done) | (simp [*]; done), by repeat (first | exact Drawn0.refl _ | apply Drawn0.step)⟩

/-! ### spec_l01Is: function 52 -/
def spec_l01Is.f (a0 : Int) : Option (Bool) := (spec_l01In.f a0 (-1000000000000) 1000000000000).bind fun t101 => (some t101)
set_option maxHeartbeats 8000000 in
set_option maxRecDepth 100000 in
theorem spec_l01Is.calls (a0 : Int) (r : Bool) (w : World) (h : spec_l01Is.f a0 = some r) :
    Calls Try.prog 52 #[.int .i64 a0] w fun e w' => e = .returned (.bool r) ∧ Drawn0 w w' := by
  have H : ((spec_l01In.f a0 (-1000000000000) 1000000000000).bind fun t101 => (some t101)) = some r := h
  clear h
  replace H := Option.bind_eq_some_iff.mp H
  obtain ⟨t101, A20, H⟩ := H
  replace H : (some t101) = some r := H
  have A2 := Aside0.mk A20
  clear A20
  obtain rfl := Option.some.inj H
  go_enter Try.func52, Try.ntmps52
  go_wp2_with (first | ((with_reducible refine gate_callee (f := 53) rfl ?_); refine goesL_ (some 4) rfl rfl Try.func53 (by kernel_rfl) rfl #[.int .i64 a0, .int .i64 (-1000000000000), .int .i64 1000000000000] rfl (by (try simp only [List.map_toArray, List.map_cons, List.map_nil]); first | done | rfl | (simp only [List.length_drop, List.length_take]; rfl)) ?_; (with_reducible refine (spec_l01In.calls a0 (-1000000000000) 1000000000000 t101 _ A2.out).mono ?_); rintro e w' ⟨rfl, ⟨nd, rfl⟩⟩; refine ⟨_, rfl, ?_⟩))
  go_ret
  exact ⟨by first | rfl | (simp; done) | (simp [*]; done), by repeat (first | exact Drawn0.refl _ | apply Drawn0.step)⟩

/-! ### spec_l01Mod: function 116 -/
def spec_l01Mod.f (a0 : Int) (a1 : Int) : Option (Int) := if a1 = 0 then (none) else (some (Int.tmod (wrap64 ((Int.tmod a0 a1) + a1)) a1))
set_option maxHeartbeats 8000000 in
set_option maxRecDepth 100000 in
theorem spec_l01Mod.calls (a0 : Int) (a1 : Int) (r : Int) (w : World) (h : spec_l01Mod.f a0 a1 = some r) :
    Calls Try.prog 116 #[.int .i64 a0, .int .i64 a1] w fun e w' => e = .returned (.int .i64 r) ∧ Drawn0 w w' := by
  have H : (if a1 = 0 then (none) else (some (Int.tmod (wrap64 ((Int.tmod a0 a1) + a1)) a1))) = some r := h
  clear h
  by_cases c3 : a1 = 0
  · rw [if_pos c3] at H
    exact absurd H (by simp)
  · rw [if_neg c3] at H
    have c3b0 : (a1 == 0) = false := beq_eq_false_iff_ne.mpr c3
    have c3b1 : (a1 != 0) = true := bne_iff_ne.mpr c3
    obtain rfl := Option.some.inj H
    go_enter Try.func116, Try.ntmps116
    go_wp2
    go_ret
    exact ⟨by first | rfl | (simp; done) | (simp [*]; done), by repeat (first | exact Drawn0.refl _ | apply Drawn0.step)⟩

/-! ### spec_l03Plain: function 92 -/
def spec_l03Plain.f (a0 : Int) : Option (Int) := (spec_l01Mod.f a0 1296000).bind fun t102 => (some t102)
set_option maxHeartbeats 8000000 in
set_option maxRecDepth 100000 in
theorem spec_l03Plain.calls (a0 : Int) (r : Int) (w : World) (h : spec_l03Plain.f a0 = some r) :
    Calls Try.prog 92 #[.int .i64 a0] w fun e w' => e = .returned (.int .i64 r) ∧ Drawn0 w w' := by
  have H : ((spec_l01Mod.f a0 1296000).bind fun t102 => (some t102)) = some r := h
  clear h
  replace H := Option.bind_eq_some_iff.mp H
  obtain ⟨t102, A20, H⟩ := H
  replace H : (some t102) = some r := H
  have A2 := Aside0.mk A20
  clear A20
  obtain rfl := Option.some.inj H
  go_enter Try.func92, Try.ntmps92
  go_wp2_with (first | ((with_reducible refine gate_callee (f := 116) rfl ?_); refine goesL_ (some 4) rfl rfl Try.func116 (by kernel_rfl) rfl #[.int .i64 a0, .int .i64 1296000] rfl (by (try simp only [List.map_toArray, List.map_cons, List.map_nil]); first | done | rfl | (simp only [List.length_drop, List.length_take]; rfl)) ?_; (with_reducible refine (spec_l01Mod.calls a0 1296000 t102 _ A2.out).mono ?_); rintro e w' ⟨rfl, ⟨nd, rfl⟩⟩; refine ⟨_, rfl, ?_⟩))
  go_ret
  exact ⟨by first | rfl | (simp; done) | (simp [*]; done), by repeat (first | exact Drawn0.refl _ | apply Drawn0.step)⟩

/-! ### spec_l04Arc: function 117 -/
def spec_l04Arc.f (a0 : Int) : Option (Int × Int) := some (wrap64 (Int.tdiv (wrap64 (a0 * 48481368)) 10000), wrap64 (Int.tdiv (wrap64 ((wrap64 (Int.tdiv (wrap64 (a0 * 48481368)) 10000)) * (wrap64 (Int.tdiv (wrap64 (a0 * 48481368)) 10000)))) 1000000000))
set_option maxHeartbeats 8000000 in
set_option maxRecDepth 100000 in
theorem spec_l04Arc.calls (a0 : Int) (r1 : Int) (r2 : Int) (w : World) (h : spec_l04Arc.f a0 = some (r1, r2)) :
    Calls Try.prog 117 #[.int .i64 a0] w fun e w' => e = .returned (.tuple #[.int .i64 r1, .int .i64 r2]) ∧ Drawn0 w w' := by
  have H : (some (wrap64 (Int.tdiv (wrap64 (a0 * 48481368)) 10000), wrap64 (Int.tdiv (wrap64 ((wrap64 (Int.tdiv (wrap64 (a0 * 48481368)) 10000)) * (wrap64 (Int.tdiv (wrap64 (a0 * 48481368)) 10000)))) 1000000000))) = some (r1, r2) := h
  clear h
  simp only [Option.some.injEq, Prod.mk.injEq] at H
  obtain ⟨rfl, rfl⟩ := H
  go_enter Try.func117, Try.ntmps117
  go_wp2
  go_ret2
  exact ⟨by first | rfl | (simp; done) | (simp [*]; done), by repeat (first | exact Drawn0.refl _ | apply Drawn0.step)⟩

/-! ### spec_l04P: function 93 -/
def spec_l04P.f (a0 : Int) : Option (Int) := (spec_l04Arc.f a0).bind fun bt103 => (some (wrap64 ((wrap64 ((wrap64 ((wrap64 (bt103.1 - (wrap64 (Int.tdiv (wrap64 (Int.tdiv (wrap64 (bt103.1 * bt103.2)) 1000000000)) 6)))) + (wrap64 (Int.tdiv (wrap64 (Int.tdiv (wrap64 ((wrap64 (Int.tdiv (wrap64 (Int.tdiv (wrap64 (bt103.1 * bt103.2)) 1000000000)) 6)) * bt103.2)) 1000000000)) 20)))) - (wrap64 (Int.tdiv (wrap64 (Int.tdiv (wrap64 ((wrap64 (Int.tdiv (wrap64 (Int.tdiv (wrap64 ((wrap64 (Int.tdiv (wrap64 (Int.tdiv (wrap64 (bt103.1 * bt103.2)) 1000000000)) 6)) * bt103.2)) 1000000000)) 20)) * bt103.2)) 1000000000)) 42)))) + (wrap64 (Int.tdiv (wrap64 (Int.tdiv (wrap64 ((wrap64 (Int.tdiv (wrap64 (Int.tdiv (wrap64 ((wrap64 (Int.tdiv (wrap64 (Int.tdiv (wrap64 ((wrap64 (Int.tdiv (wrap64 (Int.tdiv (wrap64 (bt103.1 * bt103.2)) 1000000000)) 6)) * bt103.2)) 1000000000)) 20)) * bt103.2)) 1000000000)) 42)) * bt103.2)) 1000000000)) 72)))))
set_option maxHeartbeats 8000000 in
set_option maxRecDepth 100000 in
theorem spec_l04P.calls (a0 : Int) (r : Int) (w : World) (h : spec_l04P.f a0 = some r) :
    Calls Try.prog 93 #[.int .i64 a0] w fun e w' => e = .returned (.int .i64 r) ∧ Drawn0 w w' := by
  have H : ((spec_l04Arc.f a0).bind fun bt103 => (some (wrap64 ((wrap64 ((wrap64 ((wrap64 (bt103.1 - (wrap64 (Int.tdiv (wrap64 (Int.tdiv (wrap64 (bt103.1 * bt103.2)) 1000000000)) 6)))) + (wrap64 (Int.tdiv (wrap64 (Int.tdiv (wrap64 ((wrap64 (Int.tdiv (wrap64 (Int.tdiv (wrap64 (bt103.1 * bt103.2)) 1000000000)) 6)) * bt103.2)) 1000000000)) 20)))) - (wrap64 (Int.tdiv (wrap64 (Int.tdiv (wrap64 ((wrap64 (Int.tdiv (wrap64 (Int.tdiv (wrap64 ((wrap64 (Int.tdiv (wrap64 (Int.tdiv (wrap64 (bt103.1 * bt103.2)) 1000000000)) 6)) * bt103.2)) 1000000000)) 20)) * bt103.2)) 1000000000)) 42)))) + (wrap64 (Int.tdiv (wrap64 (Int.tdiv (wrap64 ((wrap64 (Int.tdiv (wrap64 (Int.tdiv (wrap64 ((wrap64 (Int.tdiv (wrap64 (Int.tdiv (wrap64 ((wrap64 (Int.tdiv (wrap64 (Int.tdiv (wrap64 (bt103.1 * bt103.2)) 1000000000)) 6)) * bt103.2)) 1000000000)) 20)) * bt103.2)) 1000000000)) 42)) * bt103.2)) 1000000000)) 72)))))) = some r := h
  clear h
  replace H := Option.bind_eq_some_iff.mp H
  obtain ⟨⟨t103, t104⟩, A20, H⟩ := H
  replace H : (some (wrap64 ((wrap64 ((wrap64 ((wrap64 (t103 - (wrap64 (Int.tdiv (wrap64 (Int.tdiv (wrap64 (t103 * t104)) 1000000000)) 6)))) + (wrap64 (Int.tdiv (wrap64 (Int.tdiv (wrap64 ((wrap64 (Int.tdiv (wrap64 (Int.tdiv (wrap64 (t103 * t104)) 1000000000)) 6)) * t104)) 1000000000)) 20)))) - (wrap64 (Int.tdiv (wrap64 (Int.tdiv (wrap64 ((wrap64 (Int.tdiv (wrap64 (Int.tdiv (wrap64 ((wrap64 (Int.tdiv (wrap64 (Int.tdiv (wrap64 (t103 * t104)) 1000000000)) 6)) * t104)) 1000000000)) 20)) * t104)) 1000000000)) 42)))) + (wrap64 (Int.tdiv (wrap64 (Int.tdiv (wrap64 ((wrap64 (Int.tdiv (wrap64 (Int.tdiv (wrap64 ((wrap64 (Int.tdiv (wrap64 (Int.tdiv (wrap64 ((wrap64 (Int.tdiv (wrap64 (Int.tdiv (wrap64 (t103 * t104)) 1000000000)) 6)) * t104)) 1000000000)) 20)) * t104)) 1000000000)) 42)) * t104)) 1000000000)) 72))))) = some r := H
  have A2 := Aside0.mk A20
  clear A20
  obtain rfl := Option.some.inj H
  go_enter Try.func93, Try.ntmps93
  go_wp2_with (first | ((with_reducible refine gate_callee (f := 117) rfl ?_); refine goesL_ (some 11) rfl rfl Try.func117 (by kernel_rfl) rfl #[.int .i64 a0] rfl (by (try simp only [List.map_toArray, List.map_cons, List.map_nil]); first | done | rfl | (simp only [List.length_drop, List.length_take]; rfl)) ?_; (with_reducible refine (spec_l04Arc.calls a0 t103 t104 _ A2.out).mono ?_); rintro e w' ⟨rfl, ⟨nd, rfl⟩⟩; refine ⟨_, rfl, ?_⟩))
  go_ret
  exact ⟨by first | rfl | (simp; done) | (simp [*]; done), by repeat (first | exact Drawn0.refl _ | apply Drawn0.step)⟩

/-! ### spec_l04Q: function 94 -/
def spec_l04Q.f (a0 : Int) : Option (Int) := (spec_l04Arc.f a0).bind fun bt105 => (some (wrap64 ((wrap64 ((wrap64 ((wrap64 ((wrap64 (1000000000 - (wrap64 (Int.tdiv bt105.2 2)))) + (wrap64 (Int.tdiv (wrap64 (Int.tdiv (wrap64 ((wrap64 (Int.tdiv bt105.2 2)) * bt105.2)) 1000000000)) 12)))) - (wrap64 (Int.tdiv (wrap64 (Int.tdiv (wrap64 ((wrap64 (Int.tdiv (wrap64 (Int.tdiv (wrap64 ((wrap64 (Int.tdiv bt105.2 2)) * bt105.2)) 1000000000)) 12)) * bt105.2)) 1000000000)) 30)))) + (wrap64 (Int.tdiv (wrap64 (Int.tdiv (wrap64 ((wrap64 (Int.tdiv (wrap64 (Int.tdiv (wrap64 ((wrap64 (Int.tdiv (wrap64 (Int.tdiv (wrap64 ((wrap64 (Int.tdiv bt105.2 2)) * bt105.2)) 1000000000)) 12)) * bt105.2)) 1000000000)) 30)) * bt105.2)) 1000000000)) 56)))) - (wrap64 (Int.tdiv (wrap64 (Int.tdiv (wrap64 ((wrap64 (Int.tdiv (wrap64 (Int.tdiv (wrap64 ((wrap64 (Int.tdiv (wrap64 (Int.tdiv (wrap64 ((wrap64 (Int.tdiv (wrap64 (Int.tdiv (wrap64 ((wrap64 (Int.tdiv bt105.2 2)) * bt105.2)) 1000000000)) 12)) * bt105.2)) 1000000000)) 30)) * bt105.2)) 1000000000)) 56)) * bt105.2)) 1000000000)) 90)))))
set_option maxHeartbeats 8000000 in
set_option maxRecDepth 100000 in
theorem spec_l04Q.calls (a0 : Int) (r : Int) (w : World) (h : spec_l04Q.f a0 = some r) :
    Calls Try.prog 94 #[.int .i64 a0] w fun e w' => e = .returned (.int .i64 r) ∧ Drawn0 w w' := by
  have H : ((spec_l04Arc.f a0).bind fun bt105 => (some (wrap64 ((wrap64 ((wrap64 ((wrap64 ((wrap64 (1000000000 - (wrap64 (Int.tdiv bt105.2 2)))) + (wrap64 (Int.tdiv (wrap64 (Int.tdiv (wrap64 ((wrap64 (Int.tdiv bt105.2 2)) * bt105.2)) 1000000000)) 12)))) - (wrap64 (Int.tdiv (wrap64 (Int.tdiv (wrap64 ((wrap64 (Int.tdiv (wrap64 (Int.tdiv (wrap64 ((wrap64 (Int.tdiv bt105.2 2)) * bt105.2)) 1000000000)) 12)) * bt105.2)) 1000000000)) 30)))) + (wrap64 (Int.tdiv (wrap64 (Int.tdiv (wrap64 ((wrap64 (Int.tdiv (wrap64 (Int.tdiv (wrap64 ((wrap64 (Int.tdiv (wrap64 (Int.tdiv (wrap64 ((wrap64 (Int.tdiv bt105.2 2)) * bt105.2)) 1000000000)) 12)) * bt105.2)) 1000000000)) 30)) * bt105.2)) 1000000000)) 56)))) - (wrap64 (Int.tdiv (wrap64 (Int.tdiv (wrap64 ((wrap64 (Int.tdiv (wrap64 (Int.tdiv (wrap64 ((wrap64 (Int.tdiv (wrap64 (Int.tdiv (wrap64 ((wrap64 (Int.tdiv (wrap64 (Int.tdiv (wrap64 ((wrap64 (Int.tdiv bt105.2 2)) * bt105.2)) 1000000000)) 12)) * bt105.2)) 1000000000)) 30)) * bt105.2)) 1000000000)) 56)) * bt105.2)) 1000000000)) 90)))))) = some r := h
  clear h
  replace H := Option.bind_eq_some_iff.mp H
  obtain ⟨⟨t105, t106⟩, A20, H⟩ := H
  replace H : (some (wrap64 ((wrap64 ((wrap64 ((wrap64 ((wrap64 (1000000000 - (wrap64 (Int.tdiv t106 2)))) + (wrap64 (Int.tdiv (wrap64 (Int.tdiv (wrap64 ((wrap64 (Int.tdiv t106 2)) * t106)) 1000000000)) 12)))) - (wrap64 (Int.tdiv (wrap64 (Int.tdiv (wrap64 ((wrap64 (Int.tdiv (wrap64 (Int.tdiv (wrap64 ((wrap64 (Int.tdiv t106 2)) * t106)) 1000000000)) 12)) * t106)) 1000000000)) 30)))) + (wrap64 (Int.tdiv (wrap64 (Int.tdiv (wrap64 ((wrap64 (Int.tdiv (wrap64 (Int.tdiv (wrap64 ((wrap64 (Int.tdiv (wrap64 (Int.tdiv (wrap64 ((wrap64 (Int.tdiv t106 2)) * t106)) 1000000000)) 12)) * t106)) 1000000000)) 30)) * t106)) 1000000000)) 56)))) - (wrap64 (Int.tdiv (wrap64 (Int.tdiv (wrap64 ((wrap64 (Int.tdiv (wrap64 (Int.tdiv (wrap64 ((wrap64 (Int.tdiv (wrap64 (Int.tdiv (wrap64 ((wrap64 (Int.tdiv (wrap64 (Int.tdiv (wrap64 ((wrap64 (Int.tdiv t106 2)) * t106)) 1000000000)) 12)) * t106)) 1000000000)) 30)) * t106)) 1000000000)) 56)) * t106)) 1000000000)) 90))))) = some r := H
  have A2 := Aside0.mk A20
  clear A20
  obtain rfl := Option.some.inj H
  go_enter Try.func94, Try.ntmps94
  go_wp2_with (first | ((with_reducible refine gate_callee (f := 117) rfl ?_); refine goesL_ (some 12) rfl rfl Try.func117 (by kernel_rfl) rfl #[.int .i64 a0] rfl (by (try simp only [List.map_toArray, List.map_cons, List.map_nil]); first | done | rfl | (simp only [List.length_drop, List.length_take]; rfl)) ?_; (with_reducible refine (spec_l04Arc.calls a0 t105 t106 _ A2.out).mono ?_); rintro e w' ⟨rfl, ⟨nd, rfl⟩⟩; refine ⟨_, rfl, ?_⟩))
  go_ret
  exact ⟨by first | rfl | (simp; done) | (simp [*]; done), by repeat (first | exact Drawn0.refl _ | apply Drawn0.step)⟩

/-! ### spec_l04Sine: function 56 -/
def spec_l04Sine.j0 : Nat → Int → Int → Option (Int)
  | 0, _, _ => none
  | k + 1, x4, x5 => if x5 ≤ 162000 then ((spec_l04P.f x5).bind fun t108 => (if x4 ≥ 2 then (some (wrap64 (-t108))) else (some t108))) else ((spec_l04Q.f (wrap64 (324000 - x5))).bind fun t109 => (if x4 ≥ 2 then (some (wrap64 (-t109))) else (some t109)))
def spec_l04Sine.f (k : Nat) (a0 : Int) : Option (Int) := (spec_l03Plain.f a0).bind fun t107 => (if (Int.tmod (wrap64 (Int.tdiv t107 324000)) 2) = 1 then (spec_l04Sine.j0 k (wrap64 (Int.tdiv t107 324000)) (wrap64 (324000 - (Int.tmod t107 324000)))) else (spec_l04Sine.j0 k (wrap64 (Int.tdiv t107 324000)) (Int.tmod t107 324000)))
theorem spec_l04Sine.mono_l : ∀ k, (∀ y0 y1, LeO (spec_l04Sine.j0 k y0 y1) (spec_l04Sine.j0 (k + 1) y0 y1))
  | 0 => fun _ _ r h => by simp [spec_l04Sine.j0] at h
  | k + 1 => by
    have ih0 := spec_l04Sine.mono_l k
    · intro y0 y1
      unfold spec_l04Sine.j0
      repeat' first
      | (with_reducible exact ih0 _ _)
      | (with_reducible exact LeO.refl _)
      | (with_reducible exact LeO.none _)
      | (with_reducible refine LeO.ite ?_ ?_)
      | (with_reducible refine LeO.bind ?_ (fun _ => ?_))
      | exact ih0 _ _
      | exact LeO.none _
      | refine LeO.ite ?_ ?_
      | refine LeO.bind ?_ (fun _ => ?_)
theorem spec_l04Sine.mono : ∀ a0 k, LeO (spec_l04Sine.f k a0) (spec_l04Sine.f (k + 1) a0) := by
  intro a0 k
  have ih0 := spec_l04Sine.mono_l k
  unfold spec_l04Sine.f
  repeat' first
      | (with_reducible exact ih0 _ _)
      | (with_reducible exact LeO.refl _)
      | (with_reducible exact LeO.none _)
      | (with_reducible refine LeO.ite ?_ ?_)
      | (with_reducible refine LeO.bind ?_ (fun _ => ?_))
      | exact ih0 _ _
      | exact LeO.none _
      | refine LeO.ite ?_ ?_
      | refine LeO.bind ?_ (fun _ => ?_)
set_option maxHeartbeats 8000000 in
set_option maxRecDepth 100000 in
theorem spec_l04Sine.calls (k : Nat) (a0 : Int) (r : Int) (w : World) (h : spec_l04Sine.f k a0 = some r) :
    Calls Try.prog 56 #[.int .i64 a0] w fun e w' => e = .returned (.int .i64 r) ∧ Drawn0 w w' := by
  have H : ((spec_l03Plain.f a0).bind fun t107 => (if (Int.tmod (wrap64 (Int.tdiv t107 324000)) 2) = 1 then (spec_l04Sine.j0 k (wrap64 (Int.tdiv t107 324000)) (wrap64 (324000 - (Int.tmod t107 324000)))) else (spec_l04Sine.j0 k (wrap64 (Int.tdiv t107 324000)) (Int.tmod t107 324000)))) = some r := h
  clear h
  replace H := Option.bind_eq_some_iff.mp H
  obtain ⟨t107, A20, H⟩ := H
  replace H : (if (Int.tmod (wrap64 (Int.tdiv t107 324000)) 2) = 1 then (spec_l04Sine.j0 k (wrap64 (Int.tdiv t107 324000)) (wrap64 (324000 - (Int.tmod t107 324000)))) else (spec_l04Sine.j0 k (wrap64 (Int.tdiv t107 324000)) (Int.tmod t107 324000))) = some r := H
  have A2 := Aside0.mk A20
  clear A20
  have HC3 := Aside0.mk H
  clear H
  go_enter Try.func56, Try.ntmps56
  go_upto_if 15 with (first | ((with_reducible refine gate_callee (f := 92) rfl ?_); refine goesL_ (some 8) rfl rfl Try.func92 (by kernel_rfl) rfl #[.int .i64 a0] rfl (by (try simp only [List.map_toArray, List.map_cons, List.map_nil]); first | done | rfl | (simp only [List.length_drop, List.length_take]; rfl)) ?_; (with_reducible refine (spec_l03Plain.calls a0 t107 _ A2.out).mono ?_); rintro e w' ⟨rfl, ⟨nd, rfl⟩⟩; refine ⟨_, rfl, ?_⟩))
  (try simp only [Act.put, List.setIfInBounds_toArray, List.set_cons_zero, List.set_cons_succ])
  go_cut [5] (fun v5 wc => ∃ (kq : Nat) (x5_2 : Int), v5 = .int .i64 x5_2 ∧ Aside0 (spec_l04Sine.j0 kq (wrap64 (Int.tdiv t107 324000)) x5_2 = some r) ∧ Aside0 (kq ≤ k) ∧ Drawn0 w wc)
  case first =>
    have H := HC3.out
    clear HC3
    by_cases c4 : (Int.tmod (wrap64 (Int.tdiv t107 324000)) 2) = 1
    · rw [if_pos c4] at H
      have c4b0 : ((Int.tmod (wrap64 (Int.tdiv t107 324000)) 2) == 1) = true := beq_iff_eq.mpr c4
      have c4b1 : ((Int.tmod (wrap64 (Int.tdiv t107 324000)) 2) != 1) = false := bne_eq_false_iff_eq.mpr c4
      clear c4
      (first | rw [c4b0] | (simp only [i64_w, i32_w]; rw [c4b0]) | skip)
      have H' := Aside0.mk H
      clear H
      go_wp2
      go_meet
      case rel => exact ⟨_, (wrap64 (324000 - (Int.tmod t107 324000))), (by first | rfl | (simp; done) | (simp [*]; done)), H', ⟨by first | omega | exact Nat.le_refl _⟩, by repeat (first | exact Drawn0.refl _ | apply Drawn0.step)⟩
    · rw [if_neg c4] at H
      have c4b0 : ((Int.tmod (wrap64 (Int.tdiv t107 324000)) 2) == 1) = false := beq_eq_false_iff_ne.mpr c4
      have c4b1 : ((Int.tmod (wrap64 (Int.tdiv t107 324000)) 2) != 1) = true := bne_iff_ne.mpr c4
      (first | rw [c4b0] | (simp only [i64_w, i32_w]; rw [c4b0]) | skip)
      have H' := Aside0.mk H
      clear H
      go_wp2
      go_meet
      case rel => exact ⟨_, (Int.tmod t107 324000), (by first | rfl | (simp; done) | (simp [*]; done)), H', ⟨by first | omega | exact Nat.le_refl _⟩, by repeat (first | exact Drawn0.refl _ | apply Drawn0.step)⟩
  case rest =>
    clear HC3
    try clear p2
    try clear c4
    try clear c4b0
    try clear c4b1
    obtain ⟨kq, x5_2, rfl, HA, HJ2, ⟨mc2, rfl⟩⟩ := hcut
    cases kq with
    | zero => exact absurd HA.out (by simp [spec_l04Sine.j0])
    | succ kj2 =>
      have H := HA.out
      clear HA
      simp only [spec_l04Sine.j0] at H
      by_cases c5 : x5_2 ≤ 162000
      · rw [if_pos c5] at H
        have c5b0 : decide (x5_2 ≤ 162000) = true := decide_eq_true c5
        clear c5
        replace H := Option.bind_eq_some_iff.mp H
        obtain ⟨t108, A60, H⟩ := H
        replace H : (if (wrap64 (Int.tdiv t107 324000)) ≥ 2 then (some (wrap64 (-t108))) else (some t108)) = some r := H
        have A6 := Aside0.mk A60
        clear A60
        by_cases c7 : (wrap64 (Int.tdiv t107 324000)) ≥ 2
        · rw [if_pos c7] at H
          have c7b0 : decide (2 ≤ (wrap64 (Int.tdiv t107 324000))) = true := decide_eq_true c7
          clear c7
          obtain rfl := Option.some.inj H
          go_wp2_with (first | ((with_reducible refine gate_callee (f := 93) rfl ?_); refine goesL_ (some 21) rfl rfl Try.func93 (by kernel_rfl) rfl #[.int .i64 x5_2] rfl (by (try simp only [List.map_toArray, List.map_cons, List.map_nil]); first | done | rfl | (simp only [List.length_drop, List.length_take]; rfl)) ?_; (with_reducible refine (spec_l04P.calls x5_2 t108 _ A6.out).mono ?_); rintro e w' ⟨rfl, ⟨nd, rfl⟩⟩; refine ⟨_, rfl, ?_⟩))
          go_ret
          exact ⟨by first | rfl | (simp; done) | (simp [*]; done), by repeat (first | exact Drawn0.refl _ | apply Drawn0.step)⟩
        · rw [if_neg c7] at H
          have c7b0 : decide (2 ≤ (wrap64 (Int.tdiv t107 324000))) = false := decide_eq_false c7
          clear c7
          obtain rfl := Option.some.inj H
          go_wp2_with (first | ((with_reducible refine gate_callee (f := 93) rfl ?_); refine goesL_ (some 21) rfl rfl Try.func93 (by kernel_rfl) rfl #[.int .i64 x5_2] rfl (by (try simp only [List.map_toArray, List.map_cons, List.map_nil]); first | done | rfl | (simp only [List.length_drop, List.length_take]; rfl)) ?_; (with_reducible refine (spec_l04P.calls x5_2 t108 _ A6.out).mono ?_); rintro e w' ⟨rfl, ⟨nd, rfl⟩⟩; refine ⟨_, rfl, ?_⟩))
          go_ret
          exact ⟨by first | rfl | (simp; done) | (simp [*]; done), by repeat (first | exact Drawn0.refl _ | apply Drawn0.step)⟩
      · rw [if_neg c5] at H
        have c5b0 : decide (x5_2 ≤ 162000) = false := decide_eq_false c5
        clear c5
        replace H := Option.bind_eq_some_iff.mp H
        obtain ⟨t109, A80, H⟩ := H
        replace H : (if (wrap64 (Int.tdiv t107 324000)) ≥ 2 then (some (wrap64 (-t109))) else (some t109)) = some r := H
        have A8 := Aside0.mk A80
        clear A80
        by_cases c9 : (wrap64 (Int.tdiv t107 324000)) ≥ 2
        · rw [if_pos c9] at H
          have c9b0 : decide (2 ≤ (wrap64 (Int.tdiv t107 324000))) = true := decide_eq_true c9
          clear c9
          obtain rfl := Option.some.inj H
          go_wp2_with (first | ((with_reducible refine gate_callee (f := 94) rfl ?_); refine goesL_ (some 24) rfl rfl Try.func94 (by kernel_rfl) rfl #[.int .i64 (wrap64 (324000 - x5_2))] rfl (by (try simp only [List.map_toArray, List.map_cons, List.map_nil]); first | done | rfl | (simp only [List.length_drop, List.length_take]; rfl)) ?_; (with_reducible refine (spec_l04Q.calls (wrap64 (324000 - x5_2)) t109 _ A8.out).mono ?_); rintro e w' ⟨rfl, ⟨nd, rfl⟩⟩; refine ⟨_, rfl, ?_⟩))
          go_ret
          exact ⟨by first | rfl | (simp; done) | (simp [*]; done), by repeat (first | exact Drawn0.refl _ | apply Drawn0.step)⟩
        · rw [if_neg c9] at H
          have c9b0 : decide (2 ≤ (wrap64 (Int.tdiv t107 324000))) = false := decide_eq_false c9
          clear c9
          obtain rfl := Option.some.inj H
          go_wp2_with (first | ((with_reducible refine gate_callee (f := 94) rfl ?_); refine goesL_ (some 24) rfl rfl Try.func94 (by kernel_rfl) rfl #[.int .i64 (wrap64 (324000 - x5_2))] rfl (by (try simp only [List.map_toArray, List.map_cons, List.map_nil]); first | done | rfl | (simp only [List.length_drop, List.length_take]; rfl)) ?_; (with_reducible refine (spec_l04Q.calls (wrap64 (324000 - x5_2)) t109 _ A8.out).mono ?_); rintro e w' ⟨rfl, ⟨nd, rfl⟩⟩; refine ⟨_, rfl, ?_⟩))
          go_ret
          exact ⟨by first | rfl | (simp; done) | (simp [*]; done), by repeat (first | exact Drawn0.refl _ | apply Drawn0.step)⟩

/-! ### spec_l01Floor: function 71 -/
def spec_l01Floor.f (a0 : Int) (a1 : Int) : Option (Int) := if a1 < 0 then (if (wrap64 (-a1)) = 0 then (none) else (if (Int.tmod (wrap64 (-a0)) (wrap64 (-a1))) < 0 then (some (wrap64 ((wrap64 (Int.tdiv (wrap64 (-a0)) (wrap64 (-a1)))) - 1))) else (some (wrap64 (Int.tdiv (wrap64 (-a0)) (wrap64 (-a1))))))) else (if a1 = 0 then (none) else (if (Int.tmod a0 a1) < 0 then (some (wrap64 ((wrap64 (Int.tdiv a0 a1)) - 1))) else (some (wrap64 (Int.tdiv a0 a1)))))
set_option maxHeartbeats 8000000 in
set_option maxRecDepth 100000 in
theorem spec_l01Floor.calls (a0 : Int) (a1 : Int) (r : Int) (w : World) (h : spec_l01Floor.f a0 a1 = some r) :
    Calls Try.prog 71 #[.int .i64 a0, .int .i64 a1] w fun e w' => e = .returned (.int .i64 r) ∧ Drawn0 w w' := by
  have H : (if a1 < 0 then (if (wrap64 (-a1)) = 0 then (none) else (if (Int.tmod (wrap64 (-a0)) (wrap64 (-a1))) < 0 then (some (wrap64 ((wrap64 (Int.tdiv (wrap64 (-a0)) (wrap64 (-a1)))) - 1))) else (some (wrap64 (Int.tdiv (wrap64 (-a0)) (wrap64 (-a1))))))) else (if a1 = 0 then (none) else (if (Int.tmod a0 a1) < 0 then (some (wrap64 ((wrap64 (Int.tdiv a0 a1)) - 1))) else (some (wrap64 (Int.tdiv a0 a1)))))) = some r := h
  clear h
  by_cases c3 : a1 < 0
  · rw [if_pos c3] at H
    have c3b0 : decide (a1 < 0) = true := decide_eq_true c3
    clear c3
    by_cases c4 : (wrap64 (-a1)) = 0
    · rw [if_pos c4] at H
      exact absurd H (by simp)
    · rw [if_neg c4] at H
      have c4b0 : ((wrap64 (-a1)) == 0) = false := beq_eq_false_iff_ne.mpr c4
      have c4b1 : ((wrap64 (-a1)) != 0) = true := bne_iff_ne.mpr c4
      by_cases c5 : (Int.tmod (wrap64 (-a0)) (wrap64 (-a1))) < 0
      · rw [if_pos c5] at H
        have c5b0 : decide ((Int.tmod (wrap64 (-a0)) (wrap64 (-a1))) < 0) = true := decide_eq_true c5
        clear c5
        obtain rfl := Option.some.inj H
        go_enter Try.func71, Try.ntmps71
        go_wp2
        go_ret
        exact ⟨by first | rfl | (simp; done) | (simp [*]; done), by repeat (first | exact Drawn0.refl _ | apply Drawn0.step)⟩
      · rw [if_neg c5] at H
        have c5b0 : decide ((Int.tmod (wrap64 (-a0)) (wrap64 (-a1))) < 0) = false := decide_eq_false c5
        clear c5
        obtain rfl := Option.some.inj H
        go_enter Try.func71, Try.ntmps71
        go_wp2
        go_ret
        exact ⟨by first | rfl | (simp; done) | (simp [*]; done), by repeat (first | exact Drawn0.refl _ | apply Drawn0.step)⟩
  · rw [if_neg c3] at H
    have c3b0 : decide (a1 < 0) = false := decide_eq_false c3
    clear c3
    by_cases c6 : a1 = 0
    · rw [if_pos c6] at H
      exact absurd H (by simp)
    · rw [if_neg c6] at H
      have c6b0 : (a1 == 0) = false := beq_eq_false_iff_ne.mpr c6
      have c6b1 : (a1 != 0) = true := bne_iff_ne.mpr c6
      by_cases c7 : (Int.tmod a0 a1) < 0
      · rw [if_pos c7] at H
        have c7b0 : decide ((Int.tmod a0 a1) < 0) = true := decide_eq_true c7
        clear c7
        obtain rfl := Option.some.inj H
        go_enter Try.func71, Try.ntmps71
        go_wp2
        go_ret
        exact ⟨by first | rfl | (simp; done) | (simp [*]; done), by repeat (first | exact Drawn0.refl _ | apply Drawn0.step)⟩
      · rw [if_neg c7] at H
        have c7b0 : decide ((Int.tmod a0 a1) < 0) = false := decide_eq_false c7
        clear c7
        obtain rfl := Option.some.inj H
        go_enter Try.func71, Try.ntmps71
        go_wp2
        go_ret
        exact ⟨by first | rfl | (simp; done) | (simp [*]; done), by repeat (first | exact Drawn0.refl _ | apply Drawn0.step)⟩

/-! ### spec_l01Ceil: function 88 -/
def spec_l01Ceil.f (a0 : Int) (a1 : Int) : Option (Int) := (spec_l01Floor.f (wrap64 (-a0)) a1).bind fun t110 => (some (wrap64 (-t110)))
set_option maxHeartbeats 8000000 in
set_option maxRecDepth 100000 in
theorem spec_l01Ceil.calls (a0 : Int) (a1 : Int) (r : Int) (w : World) (h : spec_l01Ceil.f a0 a1 = some r) :
    Calls Try.prog 88 #[.int .i64 a0, .int .i64 a1] w fun e w' => e = .returned (.int .i64 r) ∧ Drawn0 w w' := by
  have H : ((spec_l01Floor.f (wrap64 (-a0)) a1).bind fun t110 => (some (wrap64 (-t110)))) = some r := h
  clear h
  replace H := Option.bind_eq_some_iff.mp H
  obtain ⟨t110, A30, H⟩ := H
  replace H : (some (wrap64 (-t110))) = some r := H
  have A3 := Aside0.mk A30
  clear A30
  obtain rfl := Option.some.inj H
  go_enter Try.func88, Try.ntmps88
  go_wp2_with (first | ((with_reducible refine gate_callee (f := 71) rfl ?_); refine goesL_ (some 8) rfl rfl Try.func71 (by kernel_rfl) rfl #[.int .i64 (wrap64 (-a0)), .int .i64 a1] rfl (by (try simp only [List.map_toArray, List.map_cons, List.map_nil]); first | done | rfl | (simp only [List.length_drop, List.length_take]; rfl)) ?_; (with_reducible refine (spec_l01Floor.calls (wrap64 (-a0)) a1 t110 _ A3.out).mono ?_); rintro e w' ⟨rfl, ⟨nd, rfl⟩⟩; refine ⟨_, rfl, ?_⟩))
  go_ret
  exact ⟨by first | rfl | (simp; done) | (simp [*]; done), by repeat (first | exact Drawn0.refl _ | apply Drawn0.step)⟩

/-! ### spec_l04Interval: function 104 -/
def spec_l04Interval.f (a0 : Int) : Option (Int × Int) := (spec_l01Floor.f (wrap64 (a0 - 60)) 1000).bind fun t112 => ((spec_l01Ceil.f (wrap64 (a0 + 60)) 1000).bind fun t113 => (some (t112, t113)))
set_option maxHeartbeats 8000000 in
set_option maxRecDepth 100000 in
theorem spec_l04Interval.calls (a0 : Int) (r1 : Int) (r2 : Int) (w : World) (h : spec_l04Interval.f a0 = some (r1, r2)) :
    Calls Try.prog 104 #[.int .i64 a0] w fun e w' => e = .returned (.agg #[.int .i64 r1, .int .i64 r2]) ∧ Below w.heap.size w w' := by
  have hu26 := Try.underlying26
  have HB := Aside0.mk (Below.refl w.heap.size w)
  have H : ((spec_l01Floor.f (wrap64 (a0 - 60)) 1000).bind fun t112 => ((spec_l01Ceil.f (wrap64 (a0 + 60)) 1000).bind fun t113 => (some (t112, t113)))) = some (r1, r2) := h
  clear h
  replace H := Option.bind_eq_some_iff.mp H
  obtain ⟨t112, A20, H⟩ := H
  replace H : ((spec_l01Ceil.f (wrap64 (a0 + 60)) 1000).bind fun t113 => (some (t112, t113))) = some (r1, r2) := H
  have A2 := Aside0.mk A20
  clear A20
  replace H := Option.bind_eq_some_iff.mp H
  obtain ⟨t113, A30, H⟩ := H
  replace H : (some (t112, t113)) = some (r1, r2) := H
  have A3 := Aside0.mk A30
  clear A30
  simp only [Option.some.injEq, Prod.mk.injEq] at H
  obtain ⟨rfl, rfl⟩ := H
  go_enter Try.func104, Try.ntmps104
  go_wp2_with (first | ((with_reducible refine gate_dst (N := 2) rfl ?_); refine box_event ?hg (N := 2) ?hd (cs := #[.int .i64 0, .int .i64 0]) (t := 26) ?hr ?_; (case hd => rfl); (case hg => rfl); (case hr => first | (go_simp; done) | (go_simp; rfl)); intro gb111 hg w4 hbox hb; have n0_ := Aside0.mk (below_step (by repeat (first | (with_reducible first | exact HB.out | apply below_alloc | apply pw_below_drewN | apply below_drew1) | exact HB.out)) hb); have n1_ := Aside0.mk (hbox); have n2_ := Aside0.mk ((by rw [hg]; exact (below_size (by repeat (first | (with_reducible first | exact HB.out | apply below_alloc | apply pw_below_drewN | apply below_drew1) | exact HB.out))) : w.heap.size ≤ gb111)); have n3_ := Aside0.mk ((by rw [hg]; exact (below_size (by repeat (first | (with_reducible first | exact HB.out | apply below_alloc | apply pw_below_drewN | apply below_drew1) | exact HB.out))) : w.heap.size ≤ gb111)); clear HB; have HB := n0_; have BK111 := n1_; have GW111 := n2_; have GE111 := n3_; clear n0_ n1_ n2_ n3_; clear hb hbox hg) | ((with_reducible refine gate_callee (f := 71) rfl ?_); refine goesL_ (some 5) rfl rfl Try.func71 (by kernel_rfl) rfl #[.int .i64 (wrap64 (a0 - 60)), .int .i64 1000] rfl (by (try simp only [List.map_toArray, List.map_cons, List.map_nil]); first | done | rfl | (simp only [List.length_drop, List.length_take]; rfl)) ?_; (with_reducible refine (spec_l01Floor.calls (wrap64 (a0 - 60)) 1000 t112 _ A2.out).mono ?_); rintro e w' ⟨rfl, ⟨nd, rfl⟩⟩; refine ⟨_, rfl, ?_⟩; (try (rw [drewN_self w4]; generalize hq_ : World.drewN w4 _ = w4; have n0_ : Aside0 (w4.heap[gb111]? = some (.cells #[.int .i64 0, .int .i64 0] 26 (0, 0))) := ⟨by rw [← hq_]; exact (by (with_reducible repeat (first | refine blk_drewN ?_ _ | refine blk_drew ?_ | refine blk_alloc ?_ _)); exact BK111.out)⟩; have n1_ : Aside0 (Below w.heap.size w w4) := ⟨by rw [← hq_]; exact (by repeat (first | (with_reducible first | exact HB.out | apply below_alloc | apply pw_below_drewN | apply below_drew1 | refine below_set ?_ GE111.out) | exact HB.out))⟩; clear BK111 HB hq_; have BK111 := n0_; have HB := n1_; clear n0_ n1_; have hcy1_0 : w4.cell? ⟨gb111, 0, none⟩ = some (.int .i64 0) := (blk_cell BK111.out 0).trans rfl; have hcy1_1 : w4.cell? ⟨gb111, 1, none⟩ = some (.int .i64 0) := (blk_cell BK111.out 1).trans rfl; have hfy1_0 := blk_frozen BK111.out 0; have hfy1_1 := blk_frozen BK111.out 1))) | ((with_reducible refine gate_callee (f := 88) rfl ?_); refine goesL_ (some 8) rfl rfl Try.func88 (by kernel_rfl) rfl #[.int .i64 (wrap64 (a0 + 60)), .int .i64 1000] rfl (by (try simp only [List.map_toArray, List.map_cons, List.map_nil]); first | done | rfl | (simp only [List.length_drop, List.length_take]; rfl)) ?_; (with_reducible refine (spec_l01Ceil.calls (wrap64 (a0 + 60)) 1000 t113 _ A3.out).mono ?_); rintro e w' ⟨rfl, ⟨nd, rfl⟩⟩; refine ⟨_, rfl, ?_⟩; (try (rw [drewN_self w4]; generalize hq_ : World.drewN w4 _ = w4; have n0_ : Aside0 (w4.heap[gb111]? = some (.cells #[.int .i64 0, .int .i64 0] 26 (0, 0))) := ⟨by rw [← hq_]; exact (by (with_reducible repeat (first | refine blk_drewN ?_ _ | refine blk_drew ?_ | refine blk_alloc ?_ _)); exact BK111.out)⟩; have n1_ : Aside0 (Below w.heap.size w w4) := ⟨by rw [← hq_]; exact (by repeat (first | (with_reducible first | exact HB.out | apply below_alloc | apply pw_below_drewN | apply below_drew1 | refine below_set ?_ GE111.out) | exact HB.out))⟩; clear BK111 HB hq_; have BK111 := n0_; have HB := n1_; clear n0_ n1_; have hcy2_0 : w4.cell? ⟨gb111, 0, none⟩ = some (.int .i64 0) := (blk_cell BK111.out 0).trans rfl; have hcy2_1 : w4.cell? ⟨gb111, 1, none⟩ = some (.int .i64 0) := (blk_cell BK111.out 1).trans rfl; have hfy2_0 := blk_frozen BK111.out 0; have hfy2_1 := blk_frozen BK111.out 1)); have hcz5_0 : w4.cell? ⟨gb111, 0, none⟩ = some (.int .i64 0) := (blk_cell BK111.out 0).trans rfl; have hcz5_1 : w4.cell? ⟨gb111, 1, none⟩ = some (.int .i64 0) := (blk_cell BK111.out 1).trans rfl; have hfz5_0 := blk_frozen BK111.out 0; have hfz5_1 := blk_frozen BK111.out 1))
  refine bodyPost_ret (results_cell_row rfl _ _ gb111 26 #[.int .i64 t112, .int .i64 t113] (0, 0) _ rfl (by (with_reducible repeat (first | refine blk_drewN ?_ _ | refine blk_drew ?_ | refine blk_alloc ?_ _)); refine blk_put (cs := #[.int .i64 t112, .int .i64 0]) ?_ 1 _ rfl; (with_reducible repeat (first | refine blk_drewN ?_ _ | refine blk_drew ?_ | refine blk_alloc ?_ _)); refine blk_put (cs := #[.int .i64 0, .int .i64 0]) ?_ 0 _ rfl; (with_reducible repeat (first | refine blk_drewN ?_ _ | refine blk_drew ?_ | refine blk_alloc ?_ _)); exact BK111.out) Try.underlying26 rfl (by kernel_rfl)) rfl ?_
  exact ⟨by first | rfl | (simp [errW_none, errW_some] <;> rfl) | (simp [*, errW_none, errW_some] <;> rfl), by repeat (first | (with_reducible first | exact HB.out | apply below_alloc | apply pw_below_drewN | apply below_drew1 | refine below_set ?_ GE111.out) | exact HB.out)⟩

/-! ### spec_l04Sin: function 66 -/
def spec_l04Sin.f (k : Nat) (a0 : Int) : Option (Int × Int) := (spec_l04Sine.f k a0).bind fun t115 => ((spec_l04Interval.f t115).bind fun bt116 => (some (bt116.1, bt116.2)))
theorem spec_l04Sin.mono : ∀ a0 k, LeO (spec_l04Sin.f k a0) (spec_l04Sin.f (k + 1) a0) := by
  intro a0 k
  unfold spec_l04Sin.f
  repeat' first
      | (with_reducible exact spec_l04Sine.mono _ _)
      | (with_reducible exact LeO.refl _)
      | (with_reducible exact LeO.none _)
      | (with_reducible refine LeO.ite ?_ ?_)
      | (with_reducible refine LeO.bind ?_ (fun _ => ?_))
      | exact spec_l04Sine.mono _ _
      | exact LeO.none _
      | refine LeO.ite ?_ ?_
      | refine LeO.bind ?_ (fun _ => ?_)
set_option maxHeartbeats 8000000 in
set_option maxRecDepth 100000 in
theorem spec_l04Sin.calls (k : Nat) (a0 : Int) (r1 : Int) (r2 : Int) (w : World) (h : spec_l04Sin.f k a0 = some (r1, r2)) :
    Calls Try.prog 66 #[.int .i64 a0] w fun e w' => e = .returned (.agg #[.int .i64 r1, .int .i64 r2]) ∧ Below w.heap.size w w' := by
  have hu26 := Try.underlying26
  have HB := Aside0.mk (Below.refl w.heap.size w)
  have H : ((spec_l04Sine.f k a0).bind fun t115 => ((spec_l04Interval.f t115).bind fun bt116 => (some (bt116.1, bt116.2)))) = some (r1, r2) := h
  clear h
  replace H := Option.bind_eq_some_iff.mp H
  obtain ⟨t115, A20, H⟩ := H
  replace H : ((spec_l04Interval.f t115).bind fun bt116 => (some (bt116.1, bt116.2))) = some (r1, r2) := H
  have A2 := Aside0.mk A20
  clear A20
  replace H := Option.bind_eq_some_iff.mp H
  obtain ⟨⟨t116, t117⟩, A30, H⟩ := H
  replace H : (some (t116, t117)) = some (r1, r2) := H
  have A3 := Aside0.mk A30
  clear A30
  simp only [Option.some.injEq, Prod.mk.injEq] at H
  obtain ⟨rfl, rfl⟩ := H
  go_enter Try.func66, Try.ntmps66
  go_wp2_with (first | ((with_reducible refine gate_dst (N := 2) rfl ?_); refine box_event ?hg (N := 2) ?hd (cs := #[.int .i64 0, .int .i64 0]) (t := 26) ?hr ?_; (case hd => rfl); (case hg => rfl); (case hr => first | (go_simp; done) | (go_simp; rfl)); intro gb114 hg w4 hbox hb; have n0_ := Aside0.mk (below_step (by repeat (first | (with_reducible first | exact HB.out | apply below_alloc | apply pw_below_drewN | apply below_drew1) | exact HB.out)) hb); have n1_ := Aside0.mk (hbox); have n2_ := Aside0.mk ((by rw [hg]; exact (below_size (by repeat (first | (with_reducible first | exact HB.out | apply below_alloc | apply pw_below_drewN | apply below_drew1) | exact HB.out))) : w.heap.size ≤ gb114)); have n3_ := Aside0.mk ((by rw [hg]; exact (below_size (by repeat (first | (with_reducible first | exact HB.out | apply below_alloc | apply pw_below_drewN | apply below_drew1) | exact HB.out))) : w.heap.size ≤ gb114)); clear HB; have HB := n0_; have BK114 := n1_; have GW114 := n2_; have GE114 := n3_; clear n0_ n1_ n2_ n3_; clear hb hbox hg) | ((with_reducible refine gate_callee (f := 56) rfl ?_); refine goesL_ (some 4) rfl rfl Try.func56 (by kernel_rfl) rfl #[.int .i64 a0] rfl (by (try simp only [List.map_toArray, List.map_cons, List.map_nil]); first | done | rfl | (simp only [List.length_drop, List.length_take]; rfl)) ?_; (with_reducible refine (spec_l04Sine.calls k a0 t115 _ A2.out).mono ?_); rintro e w' ⟨rfl, ⟨nd, rfl⟩⟩; refine ⟨_, rfl, ?_⟩; (try (rw [drewN_self w4]; generalize hq_ : World.drewN w4 _ = w4; have n0_ : Aside0 (w4.heap[gb114]? = some (.cells #[.int .i64 0, .int .i64 0] 26 (0, 0))) := ⟨by rw [← hq_]; exact (by (with_reducible repeat (first | refine blk_drewN ?_ _ | refine blk_drew ?_ | refine blk_alloc ?_ _)); exact BK114.out)⟩; have n1_ : Aside0 (Below w.heap.size w w4) := ⟨by rw [← hq_]; exact (by repeat (first | (with_reducible first | exact HB.out | apply below_alloc | apply pw_below_drewN | apply below_drew1 | refine below_set ?_ GE114.out) | exact HB.out))⟩; clear BK114 HB hq_; have BK114 := n0_; have HB := n1_; clear n0_ n1_; have hcy3_0 : w4.cell? ⟨gb114, 0, none⟩ = some (.int .i64 0) := (blk_cell BK114.out 0).trans rfl; have hcy3_1 : w4.cell? ⟨gb114, 1, none⟩ = some (.int .i64 0) := (blk_cell BK114.out 1).trans rfl; have hfy3_0 := blk_frozen BK114.out 0; have hfy3_1 := blk_frozen BK114.out 1))) | ((with_reducible refine gate_callee (f := 104) rfl ?_); refine goesL_ (some 5) rfl rfl Try.func104 (by kernel_rfl) rfl #[.int .i64 t115] rfl (by (try simp only [List.map_toArray, List.map_cons, List.map_nil]); first | done | rfl | (simp only [List.length_drop, List.length_take]; rfl)) ?_; (with_reducible refine (spec_l04Interval.calls t115 t116 t117 _ A3.out).mono ?_); rintro e w5 ⟨rfl, hb⟩; refine ⟨_, rfl, ?_⟩; have n0_ := Aside0.mk (blk_below (g := gb114) (o := .cells #[.int .i64 0, .int .i64 0] 26 (0, 0)) (by (with_reducible repeat (first | refine blk_drewN ?_ _ | refine blk_drew ?_ | refine blk_alloc ?_ _)); exact BK114.out) hb); have n1_ := Aside0.mk (below_step (by repeat (first | (with_reducible first | exact HB.out | apply below_alloc | apply pw_below_drewN | apply below_drew1 | refine below_set ?_ GE114.out) | exact HB.out)) hb); clear BK114; clear HB; have BK114 := n0_; have HB := n1_; clear n0_ n1_; (try clear hb); (try clear hb2); (try clear hk); (try clear hi); have hcz6_0 : w5.cell? ⟨gb114, 0, none⟩ = some (.int .i64 0) := (blk_cell BK114.out 0).trans rfl; have hcz6_1 : w5.cell? ⟨gb114, 1, none⟩ = some (.int .i64 0) := (blk_cell BK114.out 1).trans rfl; have hfz6_0 := blk_frozen BK114.out 0; have hfz6_1 := blk_frozen BK114.out 1))
  refine bodyPost_ret (results_cell_row rfl _ _ gb114 26 #[.int .i64 t116, .int .i64 t117] (0, 0) _ rfl (by (with_reducible repeat (first | refine blk_drewN ?_ _ | refine blk_drew ?_ | refine blk_alloc ?_ _)); refine blk_put (cs := #[.int .i64 t116, .int .i64 0]) ?_ 1 _ rfl; (with_reducible repeat (first | refine blk_drewN ?_ _ | refine blk_drew ?_ | refine blk_alloc ?_ _)); refine blk_put (cs := #[.int .i64 0, .int .i64 0]) ?_ 0 _ rfl; (with_reducible repeat (first | refine blk_drewN ?_ _ | refine blk_drew ?_ | refine blk_alloc ?_ _)); exact BK114.out) Try.underlying26 rfl (by kernel_rfl)) rfl ?_
  exact ⟨by first | rfl | (simp [errW_none, errW_some] <;> rfl) | (simp [*, errW_none, errW_some] <;> rfl), by repeat (first | (with_reducible first | exact HB.out | apply below_alloc | apply pw_below_drewN | apply below_drew1 | refine below_set ?_ GE114.out) | exact HB.out)⟩

/-! ### spec_SineOf: function 24 -/
def spec_SineOf.f (k : Nat) (a0 : Int) : Option (Int × Int × Int) := (spec_l01Is.f a0).bind fun t119 => (if t119 = true then ((spec_l04Sin.f k a0).bind fun bt120 => (some (bt120.1, bt120.2, 0))) else (some (0, 0, 2)))
theorem spec_SineOf.mono : ∀ a0 k, LeO (spec_SineOf.f k a0) (spec_SineOf.f (k + 1) a0) := by
  intro a0 k
  unfold spec_SineOf.f
  repeat' first
      | (with_reducible exact spec_l04Sin.mono _ _)
      | (with_reducible exact LeO.refl _)
      | (with_reducible exact LeO.none _)
      | (with_reducible refine LeO.ite ?_ ?_)
      | (with_reducible refine LeO.bind ?_ (fun _ => ?_))
      | exact spec_l04Sin.mono _ _
      | exact LeO.none _
      | refine LeO.ite ?_ ?_
      | refine LeO.bind ?_ (fun _ => ?_)
set_option maxHeartbeats 8000000 in
set_option maxRecDepth 100000 in
theorem spec_SineOf.calls (k : Nat) (a0 : Int) (r1 : Int) (r2 : Int) (r3 : Int) (w : World) (h : spec_SineOf.f k a0 = some (r1, r2, r3)) :
    Calls Try.prog 24 #[.int .i64 a0] w fun e w' => e = .returned (.tuple #[.agg #[.int .i64 r1, .int .i64 r2], .int .i64 r3]) ∧ Below w.heap.size w w' := by
  have hu26 := Try.underlying26
  have HB := Aside0.mk (Below.refl w.heap.size w)
  have H : ((spec_l01Is.f a0).bind fun t119 => (if t119 = true then ((spec_l04Sin.f k a0).bind fun bt120 => (some (bt120.1, bt120.2, 0))) else (some (0, 0, 2)))) = some (r1, r2, r3) := h
  clear h
  replace H := Option.bind_eq_some_iff.mp H
  obtain ⟨t119, A20, H⟩ := H
  replace H : (if t119 = true then ((spec_l04Sin.f k a0).bind fun bt120 => (some (bt120.1, bt120.2, 0))) else (some (0, 0, 2))) = some (r1, r2, r3) := H
  have A2 := Aside0.mk A20
  clear A20
  by_cases c3 : t119 = true
  · subst c3
    have H1 : ((spec_l04Sin.f k a0).bind fun bt120 => (some (bt120.1, bt120.2, 0))) = some (r1, r2, r3) := by rw [if_pos rfl] at H; exact H
    clear H
    have H := H1
    clear H1
    replace H := Option.bind_eq_some_iff.mp H
    obtain ⟨⟨t120, t121⟩, A40, H⟩ := H
    replace H : (some (t120, t121, 0)) = some (r1, r2, r3) := H
    have A4 := Aside0.mk A40
    clear A40
    simp only [Option.some.injEq, Prod.mk.injEq] at H
    obtain ⟨rfl, rfl, rfl⟩ := H
    go_enter Try.func24, Try.ntmps24
    go_wp2_with (first | ((with_reducible refine gate_dst (N := 2) rfl ?_); refine box_event ?hg (N := 2) ?hd (cs := #[.int .i64 0, .int .i64 0]) (t := 26) ?hr ?_; (case hd => rfl); (case hg => rfl); (case hr => first | (go_simp; done) | (go_simp; rfl)); intro gb118 hg w5 hbox hb; have n0_ := Aside0.mk (below_step (by repeat (first | (with_reducible first | exact HB.out | apply below_alloc | apply pw_below_drewN | apply below_drew1) | exact HB.out)) hb); have n1_ := Aside0.mk (hbox); have n2_ := Aside0.mk ((by rw [hg]; exact (below_size (by repeat (first | (with_reducible first | exact HB.out | apply below_alloc | apply pw_below_drewN | apply below_drew1) | exact HB.out))) : w.heap.size ≤ gb118)); have n3_ := Aside0.mk ((by rw [hg]; exact (below_size (by repeat (first | (with_reducible first | exact HB.out | apply below_alloc | apply pw_below_drewN | apply below_drew1) | exact HB.out))) : w.heap.size ≤ gb118)); clear HB; have HB := n0_; have BK118 := n1_; have GW118 := n2_; have GE118 := n3_; clear n0_ n1_ n2_ n3_; clear hb hbox hg) | ((with_reducible refine gate_callee (f := 52) rfl ?_); refine goesL_ (some 5) rfl rfl Try.func52 (by kernel_rfl) rfl #[.int .i64 a0] rfl (by (try simp only [List.map_toArray, List.map_cons, List.map_nil]); first | done | rfl | (simp only [List.length_drop, List.length_take]; rfl)) ?_; (with_reducible refine (spec_l01Is.calls a0 true _ A2.out).mono ?_); rintro e w' ⟨rfl, ⟨nd, rfl⟩⟩; refine ⟨_, rfl, ?_⟩; (try (rw [drewN_self w5]; generalize hq_ : World.drewN w5 _ = w5; have n0_ : Aside0 (w5.heap[gb118]? = some (.cells #[.int .i64 0, .int .i64 0] 26 (0, 0))) := ⟨by rw [← hq_]; exact (by (with_reducible repeat (first | refine blk_drewN ?_ _ | refine blk_drew ?_ | refine blk_alloc ?_ _)); exact BK118.out)⟩; have n1_ : Aside0 (Below w.heap.size w w5) := ⟨by rw [← hq_]; exact (by repeat (first | (with_reducible first | exact HB.out | apply below_alloc | apply pw_below_drewN | apply below_drew1 | refine below_set ?_ GE118.out) | exact HB.out))⟩; clear BK118 HB hq_; have BK118 := n0_; have HB := n1_; clear n0_ n1_; have hcy4_0 : w5.cell? ⟨gb118, 0, none⟩ = some (.int .i64 0) := (blk_cell BK118.out 0).trans rfl; have hcy4_1 : w5.cell? ⟨gb118, 1, none⟩ = some (.int .i64 0) := (blk_cell BK118.out 1).trans rfl; have hfy4_0 := blk_frozen BK118.out 0; have hfy4_1 := blk_frozen BK118.out 1))) | ((with_reducible refine gate_callee (f := 66) rfl ?_); refine goesL_ (some 9) rfl rfl Try.func66 (by kernel_rfl) rfl #[.int .i64 a0] rfl (by (try simp only [List.map_toArray, List.map_cons, List.map_nil]); first | done | rfl | (simp only [List.length_drop, List.length_take]; rfl)) ?_; (with_reducible refine (spec_l04Sin.calls k a0 t120 t121 _ A4.out).mono ?_); rintro e w6 ⟨rfl, hb⟩; refine ⟨_, rfl, ?_⟩; have n0_ := Aside0.mk (blk_below (g := gb118) (o := .cells #[.int .i64 0, .int .i64 0] 26 (0, 0)) (by (with_reducible repeat (first | refine blk_drewN ?_ _ | refine blk_drew ?_ | refine blk_alloc ?_ _)); exact BK118.out) hb); have n1_ := Aside0.mk (below_step (by repeat (first | (with_reducible first | exact HB.out | apply below_alloc | apply pw_below_drewN | apply below_drew1 | refine below_set ?_ GE118.out) | exact HB.out)) hb); clear BK118; clear HB; have BK118 := n0_; have HB := n1_; clear n0_ n1_; (try clear hb); (try clear hb2); (try clear hk); (try clear hi); have hcz7_0 : w6.cell? ⟨gb118, 0, none⟩ = some (.int .i64 0) := (blk_cell BK118.out 0).trans rfl; have hcz7_1 : w6.cell? ⟨gb118, 1, none⟩ = some (.int .i64 0) := (blk_cell BK118.out 1).trans rfl; have hfz7_0 := blk_frozen BK118.out 0; have hfz7_1 := blk_frozen BK118.out 1))
    refine bodyPost_ret (results_ct rfl _ _ gb118 26 #[.int .i64 t120, .int .i64 t121] (0, 0) _ rfl (by (with_reducible repeat (first | refine blk_drewN ?_ _ | refine blk_drew ?_ | refine blk_alloc ?_ _)); refine blk_put (cs := #[.int .i64 t120, .int .i64 0]) ?_ 1 _ rfl; (with_reducible repeat (first | refine blk_drewN ?_ _ | refine blk_drew ?_ | refine blk_alloc ?_ _)); refine blk_put (cs := #[.int .i64 0, .int .i64 0]) ?_ 0 _ rfl; (with_reducible repeat (first | refine blk_drewN ?_ _ | refine blk_drew ?_ | refine blk_alloc ?_ _)); exact BK118.out) Try.underlying26 rfl (by kernel_rfl)) rfl ?_
    exact ⟨by first | rfl | (simp [errW_none, errW_some] <;> rfl) | (simp [*, errW_none, errW_some] <;> rfl), by repeat (first | (with_reducible first | exact HB.out | apply below_alloc | apply pw_below_drewN | apply below_drew1 | refine below_set ?_ GE118.out) | exact HB.out)⟩
  · replace c3 := Bool.eq_false_iff.mpr c3
    subst c3
    have H1 : (some (0, 0, 2)) = some (r1, r2, r3) := by rw [if_neg (show ¬ (false = true) by decide)] at H; exact H
    clear H
    have H := H1
    clear H1
    simp only [Option.some.injEq, Prod.mk.injEq] at H
    obtain ⟨rfl, rfl, rfl⟩ := H
    go_enter Try.func24, Try.ntmps24
    go_wp2_with (first | ((with_reducible refine gate_dst (N := 2) rfl ?_); refine box_event ?hg (N := 2) ?hd (cs := #[.int .i64 0, .int .i64 0]) (t := 26) ?hr ?_; (case hd => rfl); (case hg => rfl); (case hr => first | (go_simp; done) | (go_simp; rfl)); intro gb118 hg w8 hbox hb; have n0_ := Aside0.mk (below_step (by repeat (first | (with_reducible first | exact HB.out | apply below_alloc | apply pw_below_drewN | apply below_drew1) | exact HB.out)) hb); have n1_ := Aside0.mk (hbox); have n2_ := Aside0.mk ((by rw [hg]; exact (below_size (by repeat (first | (with_reducible first | exact HB.out | apply below_alloc | apply pw_below_drewN | apply below_drew1) | exact HB.out))) : w.heap.size ≤ gb118)); have n3_ := Aside0.mk ((by rw [hg]; exact (below_size (by repeat (first | (with_reducible first | exact HB.out | apply below_alloc | apply pw_below_drewN | apply below_drew1) | exact HB.out))) : w.heap.size ≤ gb118)); clear HB; have HB := n0_; have BK118 := n1_; have GW118 := n2_; have GE118 := n3_; clear n0_ n1_ n2_ n3_; clear hb hbox hg) | ((with_reducible refine gate_callee (f := 52) rfl ?_); refine goesL_ (some 5) rfl rfl Try.func52 (by kernel_rfl) rfl #[.int .i64 a0] rfl (by (try simp only [List.map_toArray, List.map_cons, List.map_nil]); first | done | rfl | (simp only [List.length_drop, List.length_take]; rfl)) ?_; (with_reducible refine (spec_l01Is.calls a0 false _ A2.out).mono ?_); rintro e w' ⟨rfl, ⟨nd, rfl⟩⟩; refine ⟨_, rfl, ?_⟩; (try (rw [drewN_self w8]; generalize hq_ : World.drewN w8 _ = w8; have n0_ : Aside0 (w8.heap[gb118]? = some (.cells #[.int .i64 0, .int .i64 0] 26 (0, 0))) := ⟨by rw [← hq_]; exact (by (with_reducible repeat (first | refine blk_drewN ?_ _ | refine blk_drew ?_ | refine blk_alloc ?_ _)); exact BK118.out)⟩; have n1_ : Aside0 (Below w.heap.size w w8) := ⟨by rw [← hq_]; exact (by repeat (first | (with_reducible first | exact HB.out | apply below_alloc | apply pw_below_drewN | apply below_drew1 | refine below_set ?_ GE118.out) | exact HB.out))⟩; clear BK118 HB hq_; have BK118 := n0_; have HB := n1_; clear n0_ n1_; have hcy5_0 : w8.cell? ⟨gb118, 0, none⟩ = some (.int .i64 0) := (blk_cell BK118.out 0).trans rfl; have hcy5_1 : w8.cell? ⟨gb118, 1, none⟩ = some (.int .i64 0) := (blk_cell BK118.out 1).trans rfl; have hfy5_0 := blk_frozen BK118.out 0; have hfy5_1 := blk_frozen BK118.out 1)); have hcz9_0 : w8.cell? ⟨gb118, 0, none⟩ = some (.int .i64 0) := (blk_cell BK118.out 0).trans rfl; have hcz9_1 : w8.cell? ⟨gb118, 1, none⟩ = some (.int .i64 0) := (blk_cell BK118.out 1).trans rfl; have hfz9_0 := blk_frozen BK118.out 0; have hfz9_1 := blk_frozen BK118.out 1))
    refine bodyPost_ret (results_ct rfl _ _ gb118 26 #[.int .i64 0, .int .i64 0] (0, 0) _ rfl (by (with_reducible repeat (first | refine blk_drewN ?_ _ | refine blk_drew ?_ | refine blk_alloc ?_ _)); refine blk_put (cs := #[.int .i64 0, .int .i64 0]) ?_ 1 _ rfl; (with_reducible repeat (first | refine blk_drewN ?_ _ | refine blk_drew ?_ | refine blk_alloc ?_ _)); refine blk_put (cs := #[.int .i64 0, .int .i64 0]) ?_ 0 _ rfl; (with_reducible repeat (first | refine blk_drewN ?_ _ | refine blk_drew ?_ | refine blk_alloc ?_ _)); exact BK118.out) Try.underlying26 rfl (by kernel_rfl)) rfl ?_
    exact ⟨by first | rfl | (simp [errW_none, errW_some] <;> rfl) | (simp [*, errW_none, errW_some] <;> rfl), by repeat (first | (with_reducible first | exact HB.out | apply below_alloc | apply pw_below_drewN | apply below_drew1 | refine below_set ?_ GE118.out) | exact HB.out)⟩

/-! ### impl_in: function 58 -/
def impl_in.f (a0 : Int) (a1 : Int) (a2 : Int) : Option (Bool) := if a0 ≥ a1 then (some (decide (a0 ≤ a2))) else (some false)
set_option maxHeartbeats 8000000 in
set_option maxRecDepth 100000 in
theorem impl_in.calls (a0 : Int) (a1 : Int) (a2 : Int) (r : Bool) (w : World) (h : impl_in.f a0 a1 a2 = some r) :
    Calls Try.prog 58 #[.int .i64 a0, .int .i64 a1, .int .i64 a2] w fun e w' => e = .returned (.bool r) ∧ Drawn0 w w' := by
  have H : (if a0 ≥ a1 then (some (decide (a0 ≤ a2))) else (some false)) = some r := h
  clear h
  by_cases c4 : a0 ≥ a1
  · rw [if_pos c4] at H
    have c4b0 : decide (a1 ≤ a0) = true := decide_eq_true c4
    clear c4
    obtain rfl := Option.some.inj H
    go_enter Try.func58, Try.ntmps58
    go_wp2
    go_ret
    exact ⟨by first | rfl | (simp; done) | (simp [*]; done), by repeat (first | exact Drawn0.refl _ | apply Drawn0.step)⟩
  · rw [if_neg c4] at H
    have c4b0 : decide (a1 ≤ a0) = false := decide_eq_false c4
    clear c4
    obtain rfl := Option.some.inj H
    go_enter Try.func58, Try.ntmps58
    go_wp2
    go_ret
    exact ⟨by first | rfl | (simp; done) | (simp [*]; done), by repeat (first | exact Drawn0.refl _ | apply Drawn0.step)⟩

/-! ### impl_isValue: function 57 -/
def impl_isValue.f (a0 : Int) : Option (Bool) := (impl_in.f a0 (-1000000000000) 1000000000000).bind fun t122 => (some t122)
set_option maxHeartbeats 8000000 in
set_option maxRecDepth 100000 in
theorem impl_isValue.calls (a0 : Int) (r : Bool) (w : World) (h : impl_isValue.f a0 = some r) :
    Calls Try.prog 57 #[.int .i64 a0] w fun e w' => e = .returned (.bool r) ∧ Drawn0 w w' := by
  have H : ((impl_in.f a0 (-1000000000000) 1000000000000).bind fun t122 => (some t122)) = some r := h
  clear h
  replace H := Option.bind_eq_some_iff.mp H
  obtain ⟨t122, A20, H⟩ := H
  replace H : (some t122) = some r := H
  have A2 := Aside0.mk A20
  clear A20
  obtain rfl := Option.some.inj H
  go_enter Try.func57, Try.ntmps57
  go_wp2_with (first | ((with_reducible refine gate_callee (f := 58) rfl ?_); refine goesL_ (some 4) rfl rfl Try.func58 (by kernel_rfl) rfl #[.int .i64 a0, .int .i64 (-1000000000000), .int .i64 1000000000000] rfl (by (try simp only [List.map_toArray, List.map_cons, List.map_nil]); first | done | rfl | (simp only [List.length_drop, List.length_take]; rfl)) ?_; (with_reducible refine (impl_in.calls a0 (-1000000000000) 1000000000000 t122 _ A2.out).mono ?_); rintro e w' ⟨rfl, ⟨nd, rfl⟩⟩; refine ⟨_, rfl, ?_⟩))
  go_ret
  exact ⟨by first | rfl | (simp; done) | (simp [*]; done), by repeat (first | exact Drawn0.refl _ | apply Drawn0.step)⟩

/-! ### impl_floor: function 90 -/
def impl_floor.f (a0 : Int) (a1 : Int) : Option (Int) := if a1 = 0 then (none) else (if (Int.tmod a0 a1) = 0 then (some (wrap64 (Int.tdiv a0 a1))) else (if ((decide ((Int.tmod a0 a1) < 0)) != (decide (a1 < 0))) = true then (some (wrap64 ((wrap64 (Int.tdiv a0 a1)) - 1))) else (some (wrap64 (Int.tdiv a0 a1)))))
set_option maxHeartbeats 8000000 in
set_option maxRecDepth 100000 in
theorem impl_floor.calls (a0 : Int) (a1 : Int) (r : Int) (w : World) (h : impl_floor.f a0 a1 = some r) :
    Calls Try.prog 90 #[.int .i64 a0, .int .i64 a1] w fun e w' => e = .returned (.int .i64 r) ∧ Drawn0 w w' := by
  have H : (if a1 = 0 then (none) else (if (Int.tmod a0 a1) = 0 then (some (wrap64 (Int.tdiv a0 a1))) else (if ((decide ((Int.tmod a0 a1) < 0)) != (decide (a1 < 0))) = true then (some (wrap64 ((wrap64 (Int.tdiv a0 a1)) - 1))) else (some (wrap64 (Int.tdiv a0 a1)))))) = some r := h
  clear h
  by_cases c3 : a1 = 0
  · rw [if_pos c3] at H
    exact absurd H (by simp)
  · rw [if_neg c3] at H
    have c3b0 : (a1 == 0) = false := beq_eq_false_iff_ne.mpr c3
    have c3b1 : (a1 != 0) = true := bne_iff_ne.mpr c3
    by_cases c4 : (Int.tmod a0 a1) = 0
    · rw [if_pos c4] at H
      have c4b0 : ((Int.tmod a0 a1) == 0) = true := beq_iff_eq.mpr c4
      have c4b1 : ((Int.tmod a0 a1) != 0) = false := bne_eq_false_iff_eq.mpr c4
      clear c4
      obtain rfl := Option.some.inj H
      go_enter Try.func90, Try.ntmps90
      go_wp2
      go_ret
      exact ⟨by first | rfl | (simp; done) | (simp [*]; done), by repeat (first | exact Drawn0.refl _ | apply Drawn0.step)⟩
    · rw [if_neg c4] at H
      have c4b0 : ((Int.tmod a0 a1) == 0) = false := beq_eq_false_iff_ne.mpr c4
      have c4b1 : ((Int.tmod a0 a1) != 0) = true := bne_iff_ne.mpr c4
      by_cases c5 : ((decide ((Int.tmod a0 a1) < 0)) != (decide (a1 < 0))) = true
      · rw [if_pos c5] at H
        have c5b0 : ((decide ((Int.tmod a0 a1) < 0)) != (decide (a1 < 0))) = true := c5
        (try (have c5b1 : decide ((decide ((Int.tmod a0 a1) < 0)) = (decide (a1 < 0))) = false := by simpa using c5))
        (try (have c5b2 : ((decide ((Int.tmod a0 a1) < 0)) == (decide (a1 < 0))) = false := by simpa using c5))
        (try (have c5b3 : ¬ ((decide ((Int.tmod a0 a1) < 0)) = (decide (a1 < 0))) := by simpa using c5))
        clear c5
        obtain rfl := Option.some.inj H
        go_enter Try.func90, Try.ntmps90
        go_wp2
        go_ret
        exact ⟨by first | rfl | (simp; done) | (simp [*]; done), by repeat (first | exact Drawn0.refl _ | apply Drawn0.step)⟩
      · rw [if_neg c5] at H
        have c5b0 : ((decide ((Int.tmod a0 a1) < 0)) != (decide (a1 < 0))) = false := by simpa using c5
        (try (have c5b1 : decide ((decide ((Int.tmod a0 a1) < 0)) = (decide (a1 < 0))) = true := by simpa using c5))
        (try (have c5b2 : ((decide ((Int.tmod a0 a1) < 0)) == (decide (a1 < 0))) = true := by simpa using c5))
        clear c5
        obtain rfl := Option.some.inj H
        go_enter Try.func90, Try.ntmps90
        go_wp2
        go_ret
        exact ⟨by first | rfl | (simp; done) | (simp [*]; done), by repeat (first | exact Drawn0.refl _ | apply Drawn0.step)⟩

/-! ### impl_mod: function 101 -/
def impl_mod.f (a0 : Int) (a1 : Int) : Option (Int) := (impl_floor.f a0 a1).bind fun t123 => (some (wrap64 (a0 - (wrap64 (t123 * a1)))))
set_option maxHeartbeats 8000000 in
set_option maxRecDepth 100000 in
theorem impl_mod.calls (a0 : Int) (a1 : Int) (r : Int) (w : World) (h : impl_mod.f a0 a1 = some r) :
    Calls Try.prog 101 #[.int .i64 a0, .int .i64 a1] w fun e w' => e = .returned (.int .i64 r) ∧ Drawn0 w w' := by
  have H : ((impl_floor.f a0 a1).bind fun t123 => (some (wrap64 (a0 - (wrap64 (t123 * a1)))))) = some r := h
  clear h
  replace H := Option.bind_eq_some_iff.mp H
  obtain ⟨t123, A30, H⟩ := H
  replace H : (some (wrap64 (a0 - (wrap64 (t123 * a1))))) = some r := H
  have A3 := Aside0.mk A30
  clear A30
  obtain rfl := Option.some.inj H
  go_enter Try.func101, Try.ntmps101
  go_wp2_with (first | ((with_reducible refine gate_callee (f := 90) rfl ?_); refine goesL_ (some 8) rfl rfl Try.func90 (by kernel_rfl) rfl #[.int .i64 a0, .int .i64 a1] rfl (by (try simp only [List.map_toArray, List.map_cons, List.map_nil]); first | done | rfl | (simp only [List.length_drop, List.length_take]; rfl)) ?_; (with_reducible refine (impl_floor.calls a0 a1 t123 _ A3.out).mono ?_); rintro e w' ⟨rfl, ⟨nd, rfl⟩⟩; refine ⟨_, rfl, ?_⟩))
  go_ret
  exact ⟨by first | rfl | (simp; done) | (simp [*]; done), by repeat (first | exact Drawn0.refl _ | apply Drawn0.step)⟩

/-! ### impl_plain: function 95 -/
def impl_plain.f (a0 : Int) : Option (Int) := (impl_mod.f a0 1296000).bind fun t124 => (some t124)
set_option maxHeartbeats 8000000 in
set_option maxRecDepth 100000 in
theorem impl_plain.calls (a0 : Int) (r : Int) (w : World) (h : impl_plain.f a0 = some r) :
    Calls Try.prog 95 #[.int .i64 a0] w fun e w' => e = .returned (.int .i64 r) ∧ Drawn0 w w' := by
  have H : ((impl_mod.f a0 1296000).bind fun t124 => (some t124)) = some r := h
  clear h
  replace H := Option.bind_eq_some_iff.mp H
  obtain ⟨t124, A20, H⟩ := H
  replace H : (some t124) = some r := H
  have A2 := Aside0.mk A20
  clear A20
  obtain rfl := Option.some.inj H
  go_enter Try.func95, Try.ntmps95
  go_wp2_with (first | ((with_reducible refine gate_callee (f := 101) rfl ?_); refine goesL_ (some 4) rfl rfl Try.func101 (by kernel_rfl) rfl #[.int .i64 a0, .int .i64 1296000] rfl (by (try simp only [List.map_toArray, List.map_cons, List.map_nil]); first | done | rfl | (simp only [List.length_drop, List.length_take]; rfl)) ?_; (with_reducible refine (impl_mod.calls a0 1296000 t124 _ A2.out).mono ?_); rintro e w' ⟨rfl, ⟨nd, rfl⟩⟩; refine ⟨_, rfl, ?_⟩))
  go_ret
  exact ⟨by first | rfl | (simp; done) | (simp [*]; done), by repeat (first | exact Drawn0.refl _ | apply Drawn0.step)⟩

/-! ### impl_polynomials: function 96 -/
def impl_polynomials.f (a0 : Int) : Option (Int × Int) := some (wrap64 ((wrap64 ((wrap64 ((wrap64 ((wrap64 (Int.tdiv (wrap64 (a0 * 48481368)) 10000)) - (wrap64 (Int.tdiv (wrap64 (Int.tdiv (wrap64 ((wrap64 (Int.tdiv (wrap64 (a0 * 48481368)) 10000)) * (wrap64 (Int.tdiv (wrap64 ((wrap64 (Int.tdiv (wrap64 (a0 * 48481368)) 10000)) * (wrap64 (Int.tdiv (wrap64 (a0 * 48481368)) 10000)))) 1000000000)))) 1000000000)) 6)))) + (wrap64 (Int.tdiv (wrap64 (Int.tdiv (wrap64 ((wrap64 (Int.tdiv (wrap64 (Int.tdiv (wrap64 ((wrap64 (Int.tdiv (wrap64 (a0 * 48481368)) 10000)) * (wrap64 (Int.tdiv (wrap64 ((wrap64 (Int.tdiv (wrap64 (a0 * 48481368)) 10000)) * (wrap64 (Int.tdiv (wrap64 (a0 * 48481368)) 10000)))) 1000000000)))) 1000000000)) 6)) * (wrap64 (Int.tdiv (wrap64 ((wrap64 (Int.tdiv (wrap64 (a0 * 48481368)) 10000)) * (wrap64 (Int.tdiv (wrap64 (a0 * 48481368)) 10000)))) 1000000000)))) 1000000000)) 20)))) - (wrap64 (Int.tdiv (wrap64 (Int.tdiv (wrap64 ((wrap64 (Int.tdiv (wrap64 (Int.tdiv (wrap64 ((wrap64 (Int.tdiv (wrap64 (Int.tdiv (wrap64 ((wrap64 (Int.tdiv (wrap64 (a0 * 48481368)) 10000)) * (wrap64 (Int.tdiv (wrap64 ((wrap64 (Int.tdiv (wrap64 (a0 * 48481368)) 10000)) * (wrap64 (Int.tdiv (wrap64 (a0 * 48481368)) 10000)))) 1000000000)))) 1000000000)) 6)) * (wrap64 (Int.tdiv (wrap64 ((wrap64 (Int.tdiv (wrap64 (a0 * 48481368)) 10000)) * (wrap64 (Int.tdiv (wrap64 (a0 * 48481368)) 10000)))) 1000000000)))) 1000000000)) 20)) * (wrap64 (Int.tdiv (wrap64 ((wrap64 (Int.tdiv (wrap64 (a0 * 48481368)) 10000)) * (wrap64 (Int.tdiv (wrap64 (a0 * 48481368)) 10000)))) 1000000000)))) 1000000000)) 42)))) + (wrap64 (Int.tdiv (wrap64 (Int.tdiv (wrap64 ((wrap64 (Int.tdiv (wrap64 (Int.tdiv (wrap64 ((wrap64 (Int.tdiv (wrap64 (Int.tdiv (wrap64 ((wrap64 (Int.tdiv (wrap64 (Int.tdiv (wrap64 ((wrap64 (Int.tdiv (wrap64 (a0 * 48481368)) 10000)) * (wrap64 (Int.tdiv (wrap64 ((wrap64 (Int.tdiv (wrap64 (a0 * 48481368)) 10000)) * (wrap64 (Int.tdiv (wrap64 (a0 * 48481368)) 10000)))) 1000000000)))) 1000000000)) 6)) * (wrap64 (Int.tdiv (wrap64 ((wrap64 (Int.tdiv (wrap64 (a0 * 48481368)) 10000)) * (wrap64 (Int.tdiv (wrap64 (a0 * 48481368)) 10000)))) 1000000000)))) 1000000000)) 20)) * (wrap64 (Int.tdiv (wrap64 ((wrap64 (Int.tdiv (wrap64 (a0 * 48481368)) 10000)) * (wrap64 (Int.tdiv (wrap64 (a0 * 48481368)) 10000)))) 1000000000)))) 1000000000)) 42)) * (wrap64 (Int.tdiv (wrap64 ((wrap64 (Int.tdiv (wrap64 (a0 * 48481368)) 10000)) * (wrap64 (Int.tdiv (wrap64 (a0 * 48481368)) 10000)))) 1000000000)))) 1000000000)) 72))), wrap64 ((wrap64 ((wrap64 ((wrap64 ((wrap64 (1000000000 - (wrap64 (Int.tdiv (wrap64 (Int.tdiv (wrap64 ((wrap64 (Int.tdiv (wrap64 (a0 * 48481368)) 10000)) * (wrap64 (Int.tdiv (wrap64 (a0 * 48481368)) 10000)))) 1000000000)) 2)))) + (wrap64 (Int.tdiv (wrap64 (Int.tdiv (wrap64 ((wrap64 (Int.tdiv (wrap64 (Int.tdiv (wrap64 ((wrap64 (Int.tdiv (wrap64 (a0 * 48481368)) 10000)) * (wrap64 (Int.tdiv (wrap64 (a0 * 48481368)) 10000)))) 1000000000)) 2)) * (wrap64 (Int.tdiv (wrap64 ((wrap64 (Int.tdiv (wrap64 (a0 * 48481368)) 10000)) * (wrap64 (Int.tdiv (wrap64 (a0 * 48481368)) 10000)))) 1000000000)))) 1000000000)) 12)))) - (wrap64 (Int.tdiv (wrap64 (Int.tdiv (wrap64 ((wrap64 (Int.tdiv (wrap64 (Int.tdiv (wrap64 ((wrap64 (Int.tdiv (wrap64 (Int.tdiv (wrap64 ((wrap64 (Int.tdiv (wrap64 (a0 * 48481368)) 10000)) * (wrap64 (Int.tdiv (wrap64 (a0 * 48481368)) 10000)))) 1000000000)) 2)) * (wrap64 (Int.tdiv (wrap64 ((wrap64 (Int.tdiv (wrap64 (a0 * 48481368)) 10000)) * (wrap64 (Int.tdiv (wrap64 (a0 * 48481368)) 10000)))) 1000000000)))) 1000000000)) 12)) * (wrap64 (Int.tdiv (wrap64 ((wrap64 (Int.tdiv (wrap64 (a0 * 48481368)) 10000)) * (wrap64 (Int.tdiv (wrap64 (a0 * 48481368)) 10000)))) 1000000000)))) 1000000000)) 30)))) + (wrap64 (Int.tdiv (wrap64 (Int.tdiv (wrap64 ((wrap64 (Int.tdiv (wrap64 (Int.tdiv (wrap64 ((wrap64 (Int.tdiv (wrap64 (Int.tdiv (wrap64 ((wrap64 (Int.tdiv (wrap64 (Int.tdiv (wrap64 ((wrap64 (Int.tdiv (wrap64 (a0 * 48481368)) 10000)) * (wrap64 (Int.tdiv (wrap64 (a0 * 48481368)) 10000)))) 1000000000)) 2)) * (wrap64 (Int.tdiv (wrap64 ((wrap64 (Int.tdiv (wrap64 (a0 * 48481368)) 10000)) * (wrap64 (Int.tdiv (wrap64 (a0 * 48481368)) 10000)))) 1000000000)))) 1000000000)) 12)) * (wrap64 (Int.tdiv (wrap64 ((wrap64 (Int.tdiv (wrap64 (a0 * 48481368)) 10000)) * (wrap64 (Int.tdiv (wrap64 (a0 * 48481368)) 10000)))) 1000000000)))) 1000000000)) 30)) * (wrap64 (Int.tdiv (wrap64 ((wrap64 (Int.tdiv (wrap64 (a0 * 48481368)) 10000)) * (wrap64 (Int.tdiv (wrap64 (a0 * 48481368)) 10000)))) 1000000000)))) 1000000000)) 56)))) - (wrap64 (Int.tdiv (wrap64 (Int.tdiv (wrap64 ((wrap64 (Int.tdiv (wrap64 (Int.tdiv (wrap64 ((wrap64 (Int.tdiv (wrap64 (Int.tdiv (wrap64 ((wrap64 (Int.tdiv (wrap64 (Int.tdiv (wrap64 ((wrap64 (Int.tdiv (wrap64 (Int.tdiv (wrap64 ((wrap64 (Int.tdiv (wrap64 (a0 * 48481368)) 10000)) * (wrap64 (Int.tdiv (wrap64 (a0 * 48481368)) 10000)))) 1000000000)) 2)) * (wrap64 (Int.tdiv (wrap64 ((wrap64 (Int.tdiv (wrap64 (a0 * 48481368)) 10000)) * (wrap64 (Int.tdiv (wrap64 (a0 * 48481368)) 10000)))) 1000000000)))) 1000000000)) 12)) * (wrap64 (Int.tdiv (wrap64 ((wrap64 (Int.tdiv (wrap64 (a0 * 48481368)) 10000)) * (wrap64 (Int.tdiv (wrap64 (a0 * 48481368)) 10000)))) 1000000000)))) 1000000000)) 30)) * (wrap64 (Int.tdiv (wrap64 ((wrap64 (Int.tdiv (wrap64 (a0 * 48481368)) 10000)) * (wrap64 (Int.tdiv (wrap64 (a0 * 48481368)) 10000)))) 1000000000)))) 1000000000)) 56)) * (wrap64 (Int.tdiv (wrap64 ((wrap64 (Int.tdiv (wrap64 (a0 * 48481368)) 10000)) * (wrap64 (Int.tdiv (wrap64 (a0 * 48481368)) 10000)))) 1000000000)))) 1000000000)) 90))))
set_option maxHeartbeats 8000000 in
set_option maxRecDepth 100000 in
theorem impl_polynomials.calls (a0 : Int) (r1 : Int) (r2 : Int) (w : World) (h : impl_polynomials.f a0 = some (r1, r2)) :
    Calls Try.prog 96 #[.int .i64 a0] w fun e w' => e = .returned (.tuple #[.int .i64 r1, .int .i64 r2]) ∧ Drawn0 w w' := by
  have H : (some (wrap64 ((wrap64 ((wrap64 ((wrap64 ((wrap64 (Int.tdiv (wrap64 (a0 * 48481368)) 10000)) - (wrap64 (Int.tdiv (wrap64 (Int.tdiv (wrap64 ((wrap64 (Int.tdiv (wrap64 (a0 * 48481368)) 10000)) * (wrap64 (Int.tdiv (wrap64 ((wrap64 (Int.tdiv (wrap64 (a0 * 48481368)) 10000)) * (wrap64 (Int.tdiv (wrap64 (a0 * 48481368)) 10000)))) 1000000000)))) 1000000000)) 6)))) + (wrap64 (Int.tdiv (wrap64 (Int.tdiv (wrap64 ((wrap64 (Int.tdiv (wrap64 (Int.tdiv (wrap64 ((wrap64 (Int.tdiv (wrap64 (a0 * 48481368)) 10000)) * (wrap64 (Int.tdiv (wrap64 ((wrap64 (Int.tdiv (wrap64 (a0 * 48481368)) 10000)) * (wrap64 (Int.tdiv (wrap64 (a0 * 48481368)) 10000)))) 1000000000)))) 1000000000)) 6)) * (wrap64 (Int.tdiv (wrap64 ((wrap64 (Int.tdiv (wrap64 (a0 * 48481368)) 10000)) * (wrap64 (Int.tdiv (wrap64 (a0 * 48481368)) 10000)))) 1000000000)))) 1000000000)) 20)))) - (wrap64 (Int.tdiv (wrap64 (Int.tdiv (wrap64 ((wrap64 (Int.tdiv (wrap64 (Int.tdiv (wrap64 ((wrap64 (Int.tdiv (wrap64 (Int.tdiv (wrap64 ((wrap64 (Int.tdiv (wrap64 (a0 * 48481368)) 10000)) * (wrap64 (Int.tdiv (wrap64 ((wrap64 (Int.tdiv (wrap64 (a0 * 48481368)) 10000)) * (wrap64 (Int.tdiv (wrap64 (a0 * 48481368)) 10000)))) 1000000000)))) 1000000000)) 6)) * (wrap64 (Int.tdiv (wrap64 ((wrap64 (Int.tdiv (wrap64 (a0 * 48481368)) 10000)) * (wrap64 (Int.tdiv (wrap64 (a0 * 48481368)) 10000)))) 1000000000)))) 1000000000)) 20)) * (wrap64 (Int.tdiv (wrap64 ((wrap64 (Int.tdiv (wrap64 (a0 * 48481368)) 10000)) * (wrap64 (Int.tdiv (wrap64 (a0 * 48481368)) 10000)))) 1000000000)))) 1000000000)) 42)))) + (wrap64 (Int.tdiv (wrap64 (Int.tdiv (wrap64 ((wrap64 (Int.tdiv (wrap64 (Int.tdiv (wrap64 ((wrap64 (Int.tdiv (wrap64 (Int.tdiv (wrap64 ((wrap64 (Int.tdiv (wrap64 (Int.tdiv (wrap64 ((wrap64 (Int.tdiv (wrap64 (a0 * 48481368)) 10000)) * (wrap64 (Int.tdiv (wrap64 ((wrap64 (Int.tdiv (wrap64 (a0 * 48481368)) 10000)) * (wrap64 (Int.tdiv (wrap64 (a0 * 48481368)) 10000)))) 1000000000)))) 1000000000)) 6)) * (wrap64 (Int.tdiv (wrap64 ((wrap64 (Int.tdiv (wrap64 (a0 * 48481368)) 10000)) * (wrap64 (Int.tdiv (wrap64 (a0 * 48481368)) 10000)))) 1000000000)))) 1000000000)) 20)) * (wrap64 (Int.tdiv (wrap64 ((wrap64 (Int.tdiv (wrap64 (a0 * 48481368)) 10000)) * (wrap64 (Int.tdiv (wrap64 (a0 * 48481368)) 10000)))) 1000000000)))) 1000000000)) 42)) * (wrap64 (Int.tdiv (wrap64 ((wrap64 (Int.tdiv (wrap64 (a0 * 48481368)) 10000)) * (wrap64 (Int.tdiv (wrap64 (a0 * 48481368)) 10000)))) 1000000000)))) 1000000000)) 72))), wrap64 ((wrap64 ((wrap64 ((wrap64 ((wrap64 (1000000000 - (wrap64 (Int.tdiv (wrap64 (Int.tdiv (wrap64 ((wrap64 (Int.tdiv (wrap64 (a0 * 48481368)) 10000)) * (wrap64 (Int.tdiv (wrap64 (a0 * 48481368)) 10000)))) 1000000000)) 2)))) + (wrap64 (Int.tdiv (wrap64 (Int.tdiv (wrap64 ((wrap64 (Int.tdiv (wrap64 (Int.tdiv (wrap64 ((wrap64 (Int.tdiv (wrap64 (a0 * 48481368)) 10000)) * (wrap64 (Int.tdiv (wrap64 (a0 * 48481368)) 10000)))) 1000000000)) 2)) * (wrap64 (Int.tdiv (wrap64 ((wrap64 (Int.tdiv (wrap64 (a0 * 48481368)) 10000)) * (wrap64 (Int.tdiv (wrap64 (a0 * 48481368)) 10000)))) 1000000000)))) 1000000000)) 12)))) - (wrap64 (Int.tdiv (wrap64 (Int.tdiv (wrap64 ((wrap64 (Int.tdiv (wrap64 (Int.tdiv (wrap64 ((wrap64 (Int.tdiv (wrap64 (Int.tdiv (wrap64 ((wrap64 (Int.tdiv (wrap64 (a0 * 48481368)) 10000)) * (wrap64 (Int.tdiv (wrap64 (a0 * 48481368)) 10000)))) 1000000000)) 2)) * (wrap64 (Int.tdiv (wrap64 ((wrap64 (Int.tdiv (wrap64 (a0 * 48481368)) 10000)) * (wrap64 (Int.tdiv (wrap64 (a0 * 48481368)) 10000)))) 1000000000)))) 1000000000)) 12)) * (wrap64 (Int.tdiv (wrap64 ((wrap64 (Int.tdiv (wrap64 (a0 * 48481368)) 10000)) * (wrap64 (Int.tdiv (wrap64 (a0 * 48481368)) 10000)))) 1000000000)))) 1000000000)) 30)))) + (wrap64 (Int.tdiv (wrap64 (Int.tdiv (wrap64 ((wrap64 (Int.tdiv (wrap64 (Int.tdiv (wrap64 ((wrap64 (Int.tdiv (wrap64 (Int.tdiv (wrap64 ((wrap64 (Int.tdiv (wrap64 (Int.tdiv (wrap64 ((wrap64 (Int.tdiv (wrap64 (a0 * 48481368)) 10000)) * (wrap64 (Int.tdiv (wrap64 (a0 * 48481368)) 10000)))) 1000000000)) 2)) * (wrap64 (Int.tdiv (wrap64 ((wrap64 (Int.tdiv (wrap64 (a0 * 48481368)) 10000)) * (wrap64 (Int.tdiv (wrap64 (a0 * 48481368)) 10000)))) 1000000000)))) 1000000000)) 12)) * (wrap64 (Int.tdiv (wrap64 ((wrap64 (Int.tdiv (wrap64 (a0 * 48481368)) 10000)) * (wrap64 (Int.tdiv (wrap64 (a0 * 48481368)) 10000)))) 1000000000)))) 1000000000)) 30)) * (wrap64 (Int.tdiv (wrap64 ((wrap64 (Int.tdiv (wrap64 (a0 * 48481368)) 10000)) * (wrap64 (Int.tdiv (wrap64 (a0 * 48481368)) 10000)))) 1000000000)))) 1000000000)) 56)))) - (wrap64 (Int.tdiv (wrap64 (Int.tdiv (wrap64 ((wrap64 (Int.tdiv (wrap64 (Int.tdiv (wrap64 ((wrap64 (Int.tdiv (wrap64 (Int.tdiv (wrap64 ((wrap64 (Int.tdiv (wrap64 (Int.tdiv (wrap64 ((wrap64 (Int.tdiv (wrap64 (Int.tdiv (wrap64 ((wrap64 (Int.tdiv (wrap64 (a0 * 48481368)) 10000)) * (wrap64 (Int.tdiv (wrap64 (a0 * 48481368)) 10000)))) 1000000000)) 2)) * (wrap64 (Int.tdiv (wrap64 ((wrap64 (Int.tdiv (wrap64 (a0 * 48481368)) 10000)) * (wrap64 (Int.tdiv (wrap64 (a0 * 48481368)) 10000)))) 1000000000)))) 1000000000)) 12)) * (wrap64 (Int.tdiv (wrap64 ((wrap64 (Int.tdiv (wrap64 (a0 * 48481368)) 10000)) * (wrap64 (Int.tdiv (wrap64 (a0 * 48481368)) 10000)))) 1000000000)))) 1000000000)) 30)) * (wrap64 (Int.tdiv (wrap64 ((wrap64 (Int.tdiv (wrap64 (a0 * 48481368)) 10000)) * (wrap64 (Int.tdiv (wrap64 (a0 * 48481368)) 10000)))) 1000000000)))) 1000000000)) 56)) * (wrap64 (Int.tdiv (wrap64 ((wrap64 (Int.tdiv (wrap64 (a0 * 48481368)) 10000)) * (wrap64 (Int.tdiv (wrap64 (a0 * 48481368)) 10000)))) 1000000000)))) 1000000000)) 90))))) = some (r1, r2) := h
  clear h
  simp only [Option.some.injEq, Prod.mk.injEq] at H
  obtain ⟨rfl, rfl⟩ := H
  go_enter Try.func96, Try.ntmps96
  go_wp2
  go_ret2
  exact ⟨by first | rfl | (simp; done) | (simp [*]; done), by repeat (first | exact Drawn0.refl _ | apply Drawn0.step)⟩

/-! ### impl_nanoSine: function 61 -/
def impl_nanoSine.j0 : Nat → Int → Int → Option (Int)
  | 0, _, _ => none
  | k + 1, x4, x5 => if x5 ≤ 162000 then ((impl_polynomials.f x5).bind fun bt126 => (if x4 < 2 then (some bt126.1) else (some (wrap64 (-bt126.1))))) else ((impl_polynomials.f (wrap64 (324000 - x5))).bind fun bt128 => (if x4 < 2 then (some bt128.2) else (some (wrap64 (-bt128.2)))))
def impl_nanoSine.f (k : Nat) (a0 : Int) : Option (Int) := (impl_plain.f a0).bind fun t125 => (if (Int.tmod (wrap64 (Int.tdiv t125 324000)) 2) = 1 then (impl_nanoSine.j0 k (wrap64 (Int.tdiv t125 324000)) (wrap64 (324000 - (Int.tmod t125 324000)))) else (impl_nanoSine.j0 k (wrap64 (Int.tdiv t125 324000)) (Int.tmod t125 324000)))
theorem impl_nanoSine.mono_l : ∀ k, (∀ y0 y1, LeO (impl_nanoSine.j0 k y0 y1) (impl_nanoSine.j0 (k + 1) y0 y1))
  | 0 => fun _ _ r h => by simp [impl_nanoSine.j0] at h
  | k + 1 => by
    have ih0 := impl_nanoSine.mono_l k
    · intro y0 y1
      unfold impl_nanoSine.j0
      repeat' first
      | (with_reducible exact ih0 _ _)
      | (with_reducible exact LeO.refl _)
      | (with_reducible exact LeO.none _)
      | (with_reducible refine LeO.ite ?_ ?_)
      | (with_reducible refine LeO.bind ?_ (fun _ => ?_))
      | exact ih0 _ _
      | exact LeO.none _
      | refine LeO.ite ?_ ?_
      | refine LeO.bind ?_ (fun _ => ?_)
theorem impl_nanoSine.mono : ∀ a0 k, LeO (impl_nanoSine.f k a0) (impl_nanoSine.f (k + 1) a0) := by
  intro a0 k
  have ih0 := impl_nanoSine.mono_l k
  unfold impl_nanoSine.f
  repeat' first
      | (with_reducible exact ih0 _ _)
      | (with_reducible exact LeO.refl _)
      | (with_reducible exact LeO.none _)
      | (with_reducible refine LeO.ite ?_ ?_)
      | (with_reducible refine LeO.bind ?_ (fun _ => ?_))
      | exact ih0 _ _
      | exact LeO.none _
      | refine LeO.ite ?_ ?_
      | refine LeO.bind ?_ (fun _ => ?_)
set_option maxHeartbeats 8000000 in
set_option maxRecDepth 100000 in
theorem impl_nanoSine.calls (k : Nat) (a0 : Int) (r : Int) (w : World) (h : impl_nanoSine.f k a0 = some r) :
    Calls Try.prog 61 #[.int .i64 a0] w fun e w' => e = .returned (.int .i64 r) ∧ Drawn0 w w' := by
  have H : ((impl_plain.f a0).bind fun t125 => (if (Int.tmod (wrap64 (Int.tdiv t125 324000)) 2) = 1 then (impl_nanoSine.j0 k (wrap64 (Int.tdiv t125 324000)) (wrap64 (324000 - (Int.tmod t125 324000)))) else (impl_nanoSine.j0 k (wrap64 (Int.tdiv t125 324000)) (Int.tmod t125 324000)))) = some r := h
  clear h
  replace H := Option.bind_eq_some_iff.mp H
  obtain ⟨t125, A20, H⟩ := H
  replace H : (if (Int.tmod (wrap64 (Int.tdiv t125 324000)) 2) = 1 then (impl_nanoSine.j0 k (wrap64 (Int.tdiv t125 324000)) (wrap64 (324000 - (Int.tmod t125 324000)))) else (impl_nanoSine.j0 k (wrap64 (Int.tdiv t125 324000)) (Int.tmod t125 324000))) = some r := H
  have A2 := Aside0.mk A20
  clear A20
  have HC3 := Aside0.mk H
  clear H
  go_enter Try.func61, Try.ntmps61
  go_upto_if 15 with (first | ((with_reducible refine gate_callee (f := 95) rfl ?_); refine goesL_ (some 8) rfl rfl Try.func95 (by kernel_rfl) rfl #[.int .i64 a0] rfl (by (try simp only [List.map_toArray, List.map_cons, List.map_nil]); first | done | rfl | (simp only [List.length_drop, List.length_take]; rfl)) ?_; (with_reducible refine (impl_plain.calls a0 t125 _ A2.out).mono ?_); rintro e w' ⟨rfl, ⟨nd, rfl⟩⟩; refine ⟨_, rfl, ?_⟩))
  (try simp only [Act.put, List.setIfInBounds_toArray, List.set_cons_zero, List.set_cons_succ])
  go_cut [5] (fun v5 wc => ∃ (kq : Nat) (x5_2 : Int), v5 = .int .i64 x5_2 ∧ Aside0 (impl_nanoSine.j0 kq (wrap64 (Int.tdiv t125 324000)) x5_2 = some r) ∧ Aside0 (kq ≤ k) ∧ Drawn0 w wc)
  case first =>
    have H := HC3.out
    clear HC3
    by_cases c4 : (Int.tmod (wrap64 (Int.tdiv t125 324000)) 2) = 1
    · rw [if_pos c4] at H
      have c4b0 : ((Int.tmod (wrap64 (Int.tdiv t125 324000)) 2) == 1) = true := beq_iff_eq.mpr c4
      have c4b1 : ((Int.tmod (wrap64 (Int.tdiv t125 324000)) 2) != 1) = false := bne_eq_false_iff_eq.mpr c4
      clear c4
      (first | rw [c4b0] | (simp only [i64_w, i32_w]; rw [c4b0]) | skip)
      have H' := Aside0.mk H
      clear H
      go_wp2
      go_meet
      case rel => exact ⟨_, (wrap64 (324000 - (Int.tmod t125 324000))), (by first | rfl | (simp; done) | (simp [*]; done)), H', ⟨by first | omega | exact Nat.le_refl _⟩, by repeat (first | exact Drawn0.refl _ | apply Drawn0.step)⟩
    · rw [if_neg c4] at H
      have c4b0 : ((Int.tmod (wrap64 (Int.tdiv t125 324000)) 2) == 1) = false := beq_eq_false_iff_ne.mpr c4
      have c4b1 : ((Int.tmod (wrap64 (Int.tdiv t125 324000)) 2) != 1) = true := bne_iff_ne.mpr c4
      (first | rw [c4b0] | (simp only [i64_w, i32_w]; rw [c4b0]) | skip)
      have H' := Aside0.mk H
      clear H
      go_wp2
      go_meet
      case rel => exact ⟨_, (Int.tmod t125 324000), (by first | rfl | (simp; done) | (simp [*]; done)), H', ⟨by first | omega | exact Nat.le_refl _⟩, by repeat (first | exact Drawn0.refl _ | apply Drawn0.step)⟩
  case rest =>
    clear HC3
    try clear p2
    try clear c4
    try clear c4b0
    try clear c4b1
    obtain ⟨kq, x5_2, rfl, HA, HJ2, ⟨mc2, rfl⟩⟩ := hcut
    cases kq with
    | zero => exact absurd HA.out (by simp [impl_nanoSine.j0])
    | succ kj2 =>
      have H := HA.out
      clear HA
      simp only [impl_nanoSine.j0] at H
      by_cases c5 : x5_2 ≤ 162000
      · rw [if_pos c5] at H
        have c5b0 : decide (x5_2 ≤ 162000) = true := decide_eq_true c5
        clear c5
        replace H := Option.bind_eq_some_iff.mp H
        obtain ⟨⟨t126, t127⟩, A60, H⟩ := H
        replace H : (if (wrap64 (Int.tdiv t125 324000)) < 2 then (some t126) else (some (wrap64 (-t126)))) = some r := H
        have A6 := Aside0.mk A60
        clear A60
        by_cases c7 : (wrap64 (Int.tdiv t125 324000)) < 2
        · rw [if_pos c7] at H
          have c7b0 : decide ((wrap64 (Int.tdiv t125 324000)) < 2) = true := decide_eq_true c7
          clear c7
          obtain rfl := Option.some.inj H
          go_wp2_with (first | ((with_reducible refine gate_callee (f := 96) rfl ?_); refine goesL_ (some 22) rfl rfl Try.func96 (by kernel_rfl) rfl #[.int .i64 x5_2] rfl (by (try simp only [List.map_toArray, List.map_cons, List.map_nil]); first | done | rfl | (simp only [List.length_drop, List.length_take]; rfl)) ?_; (with_reducible refine (impl_polynomials.calls x5_2 t126 t127 _ A6.out).mono ?_); rintro e w' ⟨rfl, ⟨nd, rfl⟩⟩; refine ⟨_, rfl, ?_⟩))
          go_ret
          exact ⟨by first | rfl | (simp; done) | (simp [*]; done), by repeat (first | exact Drawn0.refl _ | apply Drawn0.step)⟩
        · rw [if_neg c7] at H
          have c7b0 : decide ((wrap64 (Int.tdiv t125 324000)) < 2) = false := decide_eq_false c7
          clear c7
          obtain rfl := Option.some.inj H
          go_wp2_with (first | ((with_reducible refine gate_callee (f := 96) rfl ?_); refine goesL_ (some 22) rfl rfl Try.func96 (by kernel_rfl) rfl #[.int .i64 x5_2] rfl (by (try simp only [List.map_toArray, List.map_cons, List.map_nil]); first | done | rfl | (simp only [List.length_drop, List.length_take]; rfl)) ?_; (with_reducible refine (impl_polynomials.calls x5_2 t126 t127 _ A6.out).mono ?_); rintro e w' ⟨rfl, ⟨nd, rfl⟩⟩; refine ⟨_, rfl, ?_⟩))
          go_ret
          exact ⟨by first | rfl | (simp; done) | (simp [*]; done), by repeat (first | exact Drawn0.refl _ | apply Drawn0.step)⟩
      · rw [if_neg c5] at H
        have c5b0 : decide (x5_2 ≤ 162000) = false := decide_eq_false c5
        clear c5
        replace H := Option.bind_eq_some_iff.mp H
        obtain ⟨⟨t128, t129⟩, A80, H⟩ := H
        replace H : (if (wrap64 (Int.tdiv t125 324000)) < 2 then (some t129) else (some (wrap64 (-t129)))) = some r := H
        have A8 := Aside0.mk A80
        clear A80
        by_cases c9 : (wrap64 (Int.tdiv t125 324000)) < 2
        · rw [if_pos c9] at H
          have c9b0 : decide ((wrap64 (Int.tdiv t125 324000)) < 2) = true := decide_eq_true c9
          clear c9
          obtain rfl := Option.some.inj H
          go_wp2_with (first | ((with_reducible refine gate_callee (f := 96) rfl ?_); refine goesL_ (some 28) rfl rfl Try.func96 (by kernel_rfl) rfl #[.int .i64 (wrap64 (324000 - x5_2))] rfl (by (try simp only [List.map_toArray, List.map_cons, List.map_nil]); first | done | rfl | (simp only [List.length_drop, List.length_take]; rfl)) ?_; (with_reducible refine (impl_polynomials.calls (wrap64 (324000 - x5_2)) t128 t129 _ A8.out).mono ?_); rintro e w' ⟨rfl, ⟨nd, rfl⟩⟩; refine ⟨_, rfl, ?_⟩))
          go_ret
          exact ⟨by first | rfl | (simp; done) | (simp [*]; done), by repeat (first | exact Drawn0.refl _ | apply Drawn0.step)⟩
        · rw [if_neg c9] at H
          have c9b0 : decide ((wrap64 (Int.tdiv t125 324000)) < 2) = false := decide_eq_false c9
          clear c9
          obtain rfl := Option.some.inj H
          go_wp2_with (first | ((with_reducible refine gate_callee (f := 96) rfl ?_); refine goesL_ (some 28) rfl rfl Try.func96 (by kernel_rfl) rfl #[.int .i64 (wrap64 (324000 - x5_2))] rfl (by (try simp only [List.map_toArray, List.map_cons, List.map_nil]); first | done | rfl | (simp only [List.length_drop, List.length_take]; rfl)) ?_; (with_reducible refine (impl_polynomials.calls (wrap64 (324000 - x5_2)) t128 t129 _ A8.out).mono ?_); rintro e w' ⟨rfl, ⟨nd, rfl⟩⟩; refine ⟨_, rfl, ?_⟩))
          go_ret
          exact ⟨by first | rfl | (simp; done) | (simp [*]; done), by repeat (first | exact Drawn0.refl _ | apply Drawn0.step)⟩

/-! ### impl_ceil: function 91 -/
def impl_ceil.f (a0 : Int) (a1 : Int) : Option (Int) := (impl_floor.f (wrap64 (-a0)) a1).bind fun t130 => (some (wrap64 (-t130)))
set_option maxHeartbeats 8000000 in
set_option maxRecDepth 100000 in
theorem impl_ceil.calls (a0 : Int) (a1 : Int) (r : Int) (w : World) (h : impl_ceil.f a0 a1 = some r) :
    Calls Try.prog 91 #[.int .i64 a0, .int .i64 a1] w fun e w' => e = .returned (.int .i64 r) ∧ Drawn0 w w' := by
  have H : ((impl_floor.f (wrap64 (-a0)) a1).bind fun t130 => (some (wrap64 (-t130)))) = some r := h
  clear h
  replace H := Option.bind_eq_some_iff.mp H
  obtain ⟨t130, A30, H⟩ := H
  replace H : (some (wrap64 (-t130))) = some r := H
  have A3 := Aside0.mk A30
  clear A30
  obtain rfl := Option.some.inj H
  go_enter Try.func91, Try.ntmps91
  go_wp2_with (first | ((with_reducible refine gate_callee (f := 90) rfl ?_); refine goesL_ (some 8) rfl rfl Try.func90 (by kernel_rfl) rfl #[.int .i64 (wrap64 (-a0)), .int .i64 a1] rfl (by (try simp only [List.map_toArray, List.map_cons, List.map_nil]); first | done | rfl | (simp only [List.length_drop, List.length_take]; rfl)) ?_; (with_reducible refine (impl_floor.calls (wrap64 (-a0)) a1 t130 _ A3.out).mono ?_); rintro e w' ⟨rfl, ⟨nd, rfl⟩⟩; refine ⟨_, rfl, ?_⟩))
  go_ret
  exact ⟨by first | rfl | (simp; done) | (simp [*]; done), by repeat (first | exact Drawn0.refl _ | apply Drawn0.step)⟩

/-! ### impl_sine: function 67 -/
def impl_sine.f (k : Nat) (a0 : Int) : Option (Int × Int) := (impl_nanoSine.f k a0).bind fun t132 => ((impl_floor.f (wrap64 (t132 - 60)) 1000).bind fun t133 => ((impl_ceil.f (wrap64 (t132 + 60)) 1000).bind fun t134 => (some (t133, t134))))
theorem impl_sine.mono : ∀ a0 k, LeO (impl_sine.f k a0) (impl_sine.f (k + 1) a0) := by
  intro a0 k
  unfold impl_sine.f
  repeat' first
      | (with_reducible exact impl_nanoSine.mono _ _)
      | (with_reducible exact LeO.refl _)
      | (with_reducible exact LeO.none _)
      | (with_reducible refine LeO.ite ?_ ?_)
      | (with_reducible refine LeO.bind ?_ (fun _ => ?_))
      | exact impl_nanoSine.mono _ _
      | exact LeO.none _
      | refine LeO.ite ?_ ?_
      | refine LeO.bind ?_ (fun _ => ?_)
set_option maxHeartbeats 8000000 in
set_option maxRecDepth 100000 in
theorem impl_sine.calls (k : Nat) (a0 : Int) (r1 : Int) (r2 : Int) (w : World) (h : impl_sine.f k a0 = some (r1, r2)) :
    Calls Try.prog 67 #[.int .i64 a0] w fun e w' => e = .returned (.agg #[.int .i64 r1, .int .i64 r2]) ∧ Below w.heap.size w w' := by
  have hu26 := Try.underlying26
  have HB := Aside0.mk (Below.refl w.heap.size w)
  have H : ((impl_nanoSine.f k a0).bind fun t132 => ((impl_floor.f (wrap64 (t132 - 60)) 1000).bind fun t133 => ((impl_ceil.f (wrap64 (t132 + 60)) 1000).bind fun t134 => (some (t133, t134))))) = some (r1, r2) := h
  clear h
  replace H := Option.bind_eq_some_iff.mp H
  obtain ⟨t132, A20, H⟩ := H
  replace H : ((impl_floor.f (wrap64 (t132 - 60)) 1000).bind fun t133 => ((impl_ceil.f (wrap64 (t132 + 60)) 1000).bind fun t134 => (some (t133, t134)))) = some (r1, r2) := H
  have A2 := Aside0.mk A20
  clear A20
  replace H := Option.bind_eq_some_iff.mp H
  obtain ⟨t133, A30, H⟩ := H
  replace H : ((impl_ceil.f (wrap64 (t132 + 60)) 1000).bind fun t134 => (some (t133, t134))) = some (r1, r2) := H
  have A3 := Aside0.mk A30
  clear A30
  replace H := Option.bind_eq_some_iff.mp H
  obtain ⟨t134, A40, H⟩ := H
  replace H : (some (t133, t134)) = some (r1, r2) := H
  have A4 := Aside0.mk A40
  clear A40
  simp only [Option.some.injEq, Prod.mk.injEq] at H
  obtain ⟨rfl, rfl⟩ := H
  go_enter Try.func67, Try.ntmps67
  go_wp2_with (first | ((with_reducible refine gate_dst (N := 2) rfl ?_); refine box_event ?hg (N := 2) ?hd (cs := #[.int .i64 0, .int .i64 0]) (t := 26) ?hr ?_; (case hd => rfl); (case hg => rfl); (case hr => first | (go_simp; done) | (go_simp; rfl)); intro gb131 hg w5 hbox hb; have n0_ := Aside0.mk (below_step (by repeat (first | (with_reducible first | exact HB.out | apply below_alloc | apply pw_below_drewN | apply below_drew1) | exact HB.out)) hb); have n1_ := Aside0.mk (hbox); have n2_ := Aside0.mk ((by rw [hg]; exact (below_size (by repeat (first | (with_reducible first | exact HB.out | apply below_alloc | apply pw_below_drewN | apply below_drew1) | exact HB.out))) : w.heap.size ≤ gb131)); have n3_ := Aside0.mk ((by rw [hg]; exact (below_size (by repeat (first | (with_reducible first | exact HB.out | apply below_alloc | apply pw_below_drewN | apply below_drew1) | exact HB.out))) : w.heap.size ≤ gb131)); clear HB; have HB := n0_; have BK131 := n1_; have GW131 := n2_; have GE131 := n3_; clear n0_ n1_ n2_ n3_; clear hb hbox hg) | ((with_reducible refine gate_callee (f := 61) rfl ?_); refine goesL_ (some 5) rfl rfl Try.func61 (by kernel_rfl) rfl #[.int .i64 a0] rfl (by (try simp only [List.map_toArray, List.map_cons, List.map_nil]); first | done | rfl | (simp only [List.length_drop, List.length_take]; rfl)) ?_; (with_reducible refine (impl_nanoSine.calls k a0 t132 _ A2.out).mono ?_); rintro e w' ⟨rfl, ⟨nd, rfl⟩⟩; refine ⟨_, rfl, ?_⟩; (try (rw [drewN_self w5]; generalize hq_ : World.drewN w5 _ = w5; have n0_ : Aside0 (w5.heap[gb131]? = some (.cells #[.int .i64 0, .int .i64 0] 26 (0, 0))) := ⟨by rw [← hq_]; exact (by (with_reducible repeat (first | refine blk_drewN ?_ _ | refine blk_drew ?_ | refine blk_alloc ?_ _)); exact BK131.out)⟩; have n1_ : Aside0 (Below w.heap.size w w5) := ⟨by rw [← hq_]; exact (by repeat (first | (with_reducible first | exact HB.out | apply below_alloc | apply pw_below_drewN | apply below_drew1 | refine below_set ?_ GE131.out) | exact HB.out))⟩; clear BK131 HB hq_; have BK131 := n0_; have HB := n1_; clear n0_ n1_; have hcy6_0 : w5.cell? ⟨gb131, 0, none⟩ = some (.int .i64 0) := (blk_cell BK131.out 0).trans rfl; have hcy6_1 : w5.cell? ⟨gb131, 1, none⟩ = some (.int .i64 0) := (blk_cell BK131.out 1).trans rfl; have hfy6_0 := blk_frozen BK131.out 0; have hfy6_1 := blk_frozen BK131.out 1))) | ((with_reducible refine gate_callee (f := 90) rfl ?_); refine goesL_ (some 8) rfl rfl Try.func90 (by kernel_rfl) rfl #[.int .i64 (wrap64 (t132 - 60)), .int .i64 1000] rfl (by (try simp only [List.map_toArray, List.map_cons, List.map_nil]); first | done | rfl | (simp only [List.length_drop, List.length_take]; rfl)) ?_; (with_reducible refine (impl_floor.calls (wrap64 (t132 - 60)) 1000 t133 _ A3.out).mono ?_); rintro e w' ⟨rfl, ⟨nd, rfl⟩⟩; refine ⟨_, rfl, ?_⟩; (try (rw [drewN_self w5]; generalize hq_ : World.drewN w5 _ = w5; have n0_ : Aside0 (w5.heap[gb131]? = some (.cells #[.int .i64 0, .int .i64 0] 26 (0, 0))) := ⟨by rw [← hq_]; exact (by (with_reducible repeat (first | refine blk_drewN ?_ _ | refine blk_drew ?_ | refine blk_alloc ?_ _)); exact BK131.out)⟩; have n1_ : Aside0 (Below w.heap.size w w5) := ⟨by rw [← hq_]; exact (by repeat (first | (with_reducible first | exact HB.out | apply below_alloc | apply pw_below_drewN | apply below_drew1 | refine below_set ?_ GE131.out) | exact HB.out))⟩; clear BK131 HB hq_; have BK131 := n0_; have HB := n1_; clear n0_ n1_; have hcy7_0 : w5.cell? ⟨gb131, 0, none⟩ = some (.int .i64 0) := (blk_cell BK131.out 0).trans rfl; have hcy7_1 : w5.cell? ⟨gb131, 1, none⟩ = some (.int .i64 0) := (blk_cell BK131.out 1).trans rfl; have hfy7_0 := blk_frozen BK131.out 0; have hfy7_1 := blk_frozen BK131.out 1))) | ((with_reducible refine gate_callee (f := 91) rfl ?_); refine goesL_ (some 11) rfl rfl Try.func91 (by kernel_rfl) rfl #[.int .i64 (wrap64 (t132 + 60)), .int .i64 1000] rfl (by (try simp only [List.map_toArray, List.map_cons, List.map_nil]); first | done | rfl | (simp only [List.length_drop, List.length_take]; rfl)) ?_; (with_reducible refine (impl_ceil.calls (wrap64 (t132 + 60)) 1000 t134 _ A4.out).mono ?_); rintro e w' ⟨rfl, ⟨nd, rfl⟩⟩; refine ⟨_, rfl, ?_⟩; (try (rw [drewN_self w5]; generalize hq_ : World.drewN w5 _ = w5; have n0_ : Aside0 (w5.heap[gb131]? = some (.cells #[.int .i64 0, .int .i64 0] 26 (0, 0))) := ⟨by rw [← hq_]; exact (by (with_reducible repeat (first | refine blk_drewN ?_ _ | refine blk_drew ?_ | refine blk_alloc ?_ _)); exact BK131.out)⟩; have n1_ : Aside0 (Below w.heap.size w w5) := ⟨by rw [← hq_]; exact (by repeat (first | (with_reducible first | exact HB.out | apply below_alloc | apply pw_below_drewN | apply below_drew1 | refine below_set ?_ GE131.out) | exact HB.out))⟩; clear BK131 HB hq_; have BK131 := n0_; have HB := n1_; clear n0_ n1_; have hcy8_0 : w5.cell? ⟨gb131, 0, none⟩ = some (.int .i64 0) := (blk_cell BK131.out 0).trans rfl; have hcy8_1 : w5.cell? ⟨gb131, 1, none⟩ = some (.int .i64 0) := (blk_cell BK131.out 1).trans rfl; have hfy8_0 := blk_frozen BK131.out 0; have hfy8_1 := blk_frozen BK131.out 1)); have hcz6_0 : w5.cell? ⟨gb131, 0, none⟩ = some (.int .i64 0) := (blk_cell BK131.out 0).trans rfl; have hcz6_1 : w5.cell? ⟨gb131, 1, none⟩ = some (.int .i64 0) := (blk_cell BK131.out 1).trans rfl; have hfz6_0 := blk_frozen BK131.out 0; have hfz6_1 := blk_frozen BK131.out 1))
  refine bodyPost_ret (results_cell_row rfl _ _ gb131 26 #[.int .i64 t133, .int .i64 t134] (0, 0) _ rfl (by (with_reducible repeat (first | refine blk_drewN ?_ _ | refine blk_drew ?_ | refine blk_alloc ?_ _)); refine blk_put (cs := #[.int .i64 t133, .int .i64 0]) ?_ 1 _ rfl; (with_reducible repeat (first | refine blk_drewN ?_ _ | refine blk_drew ?_ | refine blk_alloc ?_ _)); refine blk_put (cs := #[.int .i64 0, .int .i64 0]) ?_ 0 _ rfl; (with_reducible repeat (first | refine blk_drewN ?_ _ | refine blk_drew ?_ | refine blk_alloc ?_ _)); exact BK131.out) Try.underlying26 rfl (by kernel_rfl)) rfl ?_
  exact ⟨by first | rfl | (simp [errW_none, errW_some] <;> rfl) | (simp [*, errW_none, errW_some] <;> rfl), by repeat (first | (with_reducible first | exact HB.out | apply below_alloc | apply pw_below_drewN | apply below_drew1 | refine below_set ?_ GE131.out) | exact HB.out)⟩

/-! ### impl_SineOf: function 25 -/
def impl_SineOf.f (k : Nat) (a0 : Int) : Option (Int × Int × Int) := (impl_isValue.f a0).bind fun t136 => (if t136 = true then ((impl_sine.f k a0).bind fun bt137 => (some (bt137.1, bt137.2, 0))) else (some (0, 0, 2)))
theorem impl_SineOf.mono : ∀ a0 k, LeO (impl_SineOf.f k a0) (impl_SineOf.f (k + 1) a0) := by
  intro a0 k
  unfold impl_SineOf.f
  repeat' first
      | (with_reducible exact impl_sine.mono _ _)
      | (with_reducible exact LeO.refl _)
      | (with_reducible exact LeO.none _)
      | (with_reducible refine LeO.ite ?_ ?_)
      | (with_reducible refine LeO.bind ?_ (fun _ => ?_))
      | exact impl_sine.mono _ _
      | exact LeO.none _
      | refine LeO.ite ?_ ?_
      | refine LeO.bind ?_ (fun _ => ?_)
set_option maxHeartbeats 8000000 in
set_option maxRecDepth 100000 in
theorem impl_SineOf.calls (k : Nat) (a0 : Int) (r1 : Int) (r2 : Int) (r3 : Int) (w : World) (h : impl_SineOf.f k a0 = some (r1, r2, r3)) :
    Calls Try.prog 25 #[.int .i64 a0] w fun e w' => e = .returned (.tuple #[.agg #[.int .i64 r1, .int .i64 r2], .int .i64 r3]) ∧ Below w.heap.size w w' := by
  have hu26 := Try.underlying26
  have HB := Aside0.mk (Below.refl w.heap.size w)
  have H : ((impl_isValue.f a0).bind fun t136 => (if t136 = true then ((impl_sine.f k a0).bind fun bt137 => (some (bt137.1, bt137.2, 0))) else (some (0, 0, 2)))) = some (r1, r2, r3) := h
  clear h
  replace H := Option.bind_eq_some_iff.mp H
  obtain ⟨t136, A20, H⟩ := H
  replace H : (if t136 = true then ((impl_sine.f k a0).bind fun bt137 => (some (bt137.1, bt137.2, 0))) else (some (0, 0, 2))) = some (r1, r2, r3) := H
  have A2 := Aside0.mk A20
  clear A20
  by_cases c3 : t136 = true
  · subst c3
    have H1 : ((impl_sine.f k a0).bind fun bt137 => (some (bt137.1, bt137.2, 0))) = some (r1, r2, r3) := by rw [if_pos rfl] at H; exact H
    clear H
    have H := H1
    clear H1
    replace H := Option.bind_eq_some_iff.mp H
    obtain ⟨⟨t137, t138⟩, A40, H⟩ := H
    replace H : (some (t137, t138, 0)) = some (r1, r2, r3) := H
    have A4 := Aside0.mk A40
    clear A40
    simp only [Option.some.injEq, Prod.mk.injEq] at H
    obtain ⟨rfl, rfl, rfl⟩ := H
    go_enter Try.func25, Try.ntmps25
    go_wp2_with (first | ((with_reducible refine gate_dst (N := 2) rfl ?_); refine box_event ?hg (N := 2) ?hd (cs := #[.int .i64 0, .int .i64 0]) (t := 26) ?hr ?_; (case hd => rfl); (case hg => rfl); (case hr => first | (go_simp; done) | (go_simp; rfl)); intro gb135 hg w5 hbox hb; have n0_ := Aside0.mk (below_step (by repeat (first | (with_reducible first | exact HB.out | apply below_alloc | apply pw_below_drewN | apply below_drew1) | exact HB.out)) hb); have n1_ := Aside0.mk (hbox); have n2_ := Aside0.mk ((by rw [hg]; exact (below_size (by repeat (first | (with_reducible first | exact HB.out | apply below_alloc | apply pw_below_drewN | apply below_drew1) | exact HB.out))) : w.heap.size ≤ gb135)); have n3_ := Aside0.mk ((by rw [hg]; exact (below_size (by repeat (first | (with_reducible first | exact HB.out | apply below_alloc | apply pw_below_drewN | apply below_drew1) | exact HB.out))) : w.heap.size ≤ gb135)); clear HB; have HB := n0_; have BK135 := n1_; have GW135 := n2_; have GE135 := n3_; clear n0_ n1_ n2_ n3_; clear hb hbox hg) | ((with_reducible refine gate_callee (f := 57) rfl ?_); refine goesL_ (some 5) rfl rfl Try.func57 (by kernel_rfl) rfl #[.int .i64 a0] rfl (by (try simp only [List.map_toArray, List.map_cons, List.map_nil]); first | done | rfl | (simp only [List.length_drop, List.length_take]; rfl)) ?_; (with_reducible refine (impl_isValue.calls a0 true _ A2.out).mono ?_); rintro e w' ⟨rfl, ⟨nd, rfl⟩⟩; refine ⟨_, rfl, ?_⟩; (try (rw [drewN_self w5]; generalize hq_ : World.drewN w5 _ = w5; have n0_ : Aside0 (w5.heap[gb135]? = some (.cells #[.int .i64 0, .int .i64 0] 26 (0, 0))) := ⟨by rw [← hq_]; exact (by (with_reducible repeat (first | refine blk_drewN ?_ _ | refine blk_drew ?_ | refine blk_alloc ?_ _)); exact BK135.out)⟩; have n1_ : Aside0 (Below w.heap.size w w5) := ⟨by rw [← hq_]; exact (by repeat (first | (with_reducible first | exact HB.out | apply below_alloc | apply pw_below_drewN | apply below_drew1 | refine below_set ?_ GE135.out) | exact HB.out))⟩; clear BK135 HB hq_; have BK135 := n0_; have HB := n1_; clear n0_ n1_; have hcy9_0 : w5.cell? ⟨gb135, 0, none⟩ = some (.int .i64 0) := (blk_cell BK135.out 0).trans rfl; have hcy9_1 : w5.cell? ⟨gb135, 1, none⟩ = some (.int .i64 0) := (blk_cell BK135.out 1).trans rfl; have hfy9_0 := blk_frozen BK135.out 0; have hfy9_1 := blk_frozen BK135.out 1))) | ((with_reducible refine gate_callee (f := 67) rfl ?_); refine goesL_ (some 9) rfl rfl Try.func67 (by kernel_rfl) rfl #[.int .i64 a0] rfl (by (try simp only [List.map_toArray, List.map_cons, List.map_nil]); first | done | rfl | (simp only [List.length_drop, List.length_take]; rfl)) ?_; (with_reducible refine (impl_sine.calls k a0 t137 t138 _ A4.out).mono ?_); rintro e w6 ⟨rfl, hb⟩; refine ⟨_, rfl, ?_⟩; have n0_ := Aside0.mk (blk_below (g := gb135) (o := .cells #[.int .i64 0, .int .i64 0] 26 (0, 0)) (by (with_reducible repeat (first | refine blk_drewN ?_ _ | refine blk_drew ?_ | refine blk_alloc ?_ _)); exact BK135.out) hb); have n1_ := Aside0.mk (below_step (by repeat (first | (with_reducible first | exact HB.out | apply below_alloc | apply pw_below_drewN | apply below_drew1 | refine below_set ?_ GE135.out) | exact HB.out)) hb); clear BK135; clear HB; have BK135 := n0_; have HB := n1_; clear n0_ n1_; (try clear hb); (try clear hb2); (try clear hk); (try clear hi); have hcz7_0 : w6.cell? ⟨gb135, 0, none⟩ = some (.int .i64 0) := (blk_cell BK135.out 0).trans rfl; have hcz7_1 : w6.cell? ⟨gb135, 1, none⟩ = some (.int .i64 0) := (blk_cell BK135.out 1).trans rfl; have hfz7_0 := blk_frozen BK135.out 0; have hfz7_1 := blk_frozen BK135.out 1))
    refine bodyPost_ret (results_ct rfl _ _ gb135 26 #[.int .i64 t137, .int .i64 t138] (0, 0) _ rfl (by (with_reducible repeat (first | refine blk_drewN ?_ _ | refine blk_drew ?_ | refine blk_alloc ?_ _)); refine blk_put (cs := #[.int .i64 t137, .int .i64 0]) ?_ 1 _ rfl; (with_reducible repeat (first | refine blk_drewN ?_ _ | refine blk_drew ?_ | refine blk_alloc ?_ _)); refine blk_put (cs := #[.int .i64 0, .int .i64 0]) ?_ 0 _ rfl; (with_reducible repeat (first | refine blk_drewN ?_ _ | refine blk_drew ?_ | refine blk_alloc ?_ _)); exact BK135.out) Try.underlying26 rfl (by kernel_rfl)) rfl ?_
    exact ⟨by first | rfl | (simp [errW_none, errW_some] <;> rfl) | (simp [*, errW_none, errW_some] <;> rfl), by repeat (first | (with_reducible first | exact HB.out | apply below_alloc | apply pw_below_drewN | apply below_drew1 | refine below_set ?_ GE135.out) | exact HB.out)⟩
  · replace c3 := Bool.eq_false_iff.mpr c3
    subst c3
    have H1 : (some (0, 0, 2)) = some (r1, r2, r3) := by rw [if_neg (show ¬ (false = true) by decide)] at H; exact H
    clear H
    have H := H1
    clear H1
    simp only [Option.some.injEq, Prod.mk.injEq] at H
    obtain ⟨rfl, rfl, rfl⟩ := H
    go_enter Try.func25, Try.ntmps25
    go_wp2_with (first | ((with_reducible refine gate_dst (N := 2) rfl ?_); refine box_event ?hg (N := 2) ?hd (cs := #[.int .i64 0, .int .i64 0]) (t := 26) ?hr ?_; (case hd => rfl); (case hg => rfl); (case hr => first | (go_simp; done) | (go_simp; rfl)); intro gb135 hg w8 hbox hb; have n0_ := Aside0.mk (below_step (by repeat (first | (with_reducible first | exact HB.out | apply below_alloc | apply pw_below_drewN | apply below_drew1) | exact HB.out)) hb); have n1_ := Aside0.mk (hbox); have n2_ := Aside0.mk ((by rw [hg]; exact (below_size (by repeat (first | (with_reducible first | exact HB.out | apply below_alloc | apply pw_below_drewN | apply below_drew1) | exact HB.out))) : w.heap.size ≤ gb135)); have n3_ := Aside0.mk ((by rw [hg]; exact (below_size (by repeat (first | (with_reducible first | exact HB.out | apply below_alloc | apply pw_below_drewN | apply below_drew1) | exact HB.out))) : w.heap.size ≤ gb135)); clear HB; have HB := n0_; have BK135 := n1_; have GW135 := n2_; have GE135 := n3_; clear n0_ n1_ n2_ n3_; clear hb hbox hg) | ((with_reducible refine gate_callee (f := 57) rfl ?_); refine goesL_ (some 5) rfl rfl Try.func57 (by kernel_rfl) rfl #[.int .i64 a0] rfl (by (try simp only [List.map_toArray, List.map_cons, List.map_nil]); first | done | rfl | (simp only [List.length_drop, List.length_take]; rfl)) ?_; (with_reducible refine (impl_isValue.calls a0 false _ A2.out).mono ?_); rintro e w' ⟨rfl, ⟨nd, rfl⟩⟩; refine ⟨_, rfl, ?_⟩; (try (rw [drewN_self w8]; generalize hq_ : World.drewN w8 _ = w8; have n0_ : Aside0 (w8.heap[gb135]? = some (.cells #[.int .i64 0, .int .i64 0] 26 (0, 0))) := ⟨by rw [← hq_]; exact (by (with_reducible repeat (first | refine blk_drewN ?_ _ | refine blk_drew ?_ | refine blk_alloc ?_ _)); exact BK135.out)⟩; have n1_ : Aside0 (Below w.heap.size w w8) := ⟨by rw [← hq_]; exact (by repeat (first | (with_reducible first | exact HB.out | apply below_alloc | apply pw_below_drewN | apply below_drew1 | refine below_set ?_ GE135.out) | exact HB.out))⟩; clear BK135 HB hq_; have BK135 := n0_; have HB := n1_; clear n0_ n1_; have hcy10_0 : w8.cell? ⟨gb135, 0, none⟩ = some (.int .i64 0) := (blk_cell BK135.out 0).trans rfl; have hcy10_1 : w8.cell? ⟨gb135, 1, none⟩ = some (.int .i64 0) := (blk_cell BK135.out 1).trans rfl; have hfy10_0 := blk_frozen BK135.out 0; have hfy10_1 := blk_frozen BK135.out 1)); have hcz9_0 : w8.cell? ⟨gb135, 0, none⟩ = some (.int .i64 0) := (blk_cell BK135.out 0).trans rfl; have hcz9_1 : w8.cell? ⟨gb135, 1, none⟩ = some (.int .i64 0) := (blk_cell BK135.out 1).trans rfl; have hfz9_0 := blk_frozen BK135.out 0; have hfz9_1 := blk_frozen BK135.out 1))
    refine bodyPost_ret (results_ct rfl _ _ gb135 26 #[.int .i64 0, .int .i64 0] (0, 0) _ rfl (by (with_reducible repeat (first | refine blk_drewN ?_ _ | refine blk_drew ?_ | refine blk_alloc ?_ _)); refine blk_put (cs := #[.int .i64 0, .int .i64 0]) ?_ 1 _ rfl; (with_reducible repeat (first | refine blk_drewN ?_ _ | refine blk_drew ?_ | refine blk_alloc ?_ _)); refine blk_put (cs := #[.int .i64 0, .int .i64 0]) ?_ 0 _ rfl; (with_reducible repeat (first | refine blk_drewN ?_ _ | refine blk_drew ?_ | refine blk_alloc ?_ _)); exact BK135.out) Try.underlying26 rfl (by kernel_rfl)) rfl ?_
    exact ⟨by first | rfl | (simp [errW_none, errW_some] <;> rfl) | (simp [*, errW_none, errW_some] <;> rfl), by repeat (first | (with_reducible first | exact HB.out | apply below_alloc | apply pw_below_drewN | apply below_drew1 | refine below_set ?_ GE135.out) | exact HB.out)⟩

end Go.Proofs.Ytllapjemdegnjaa.PFnExactSineOf
