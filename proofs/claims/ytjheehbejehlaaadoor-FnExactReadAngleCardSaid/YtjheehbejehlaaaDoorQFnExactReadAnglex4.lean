-- The machine's side of the law FnExactReadAngle: functions and their walks, made by q.py out of the kit's own print.
import Derived.Test.YtjheehbejehlaaaDoorQFnExactReadAnglex0
import Derived.Test.YtjheehbejehlaaaDoorQFnExactReadAnglex3
namespace Go.Proofs.YtjheehbejehlaaaDoor.PFnExactReadAngle
open Go.RowKit Go.Proofs.YtjheehbejehlaaaDoorW.PrintWords Go.Proofs.YtjheehbejehlaaaDoorW.PrintLast Go.Proofs.YtjheehbejehlaaaDoorW.PrintMore
attribute [local go_sem] max2_int min2_int max_two min_two max_three min_three max_four min_four   -- for this text's walks alone
set_option linter.unusedVariables false
set_option linter.unusedSimpArgs false

/-! ### impl_in: function 29 -/
def impl_in.f (a0 : Int) (a1 : Int) (a2 : Int) : Option (Bool) := if a0 ≥ a1 then (some (decide (a0 ≤ a2))) else (some false)
set_option maxHeartbeats 8000000 in
set_option maxRecDepth 100000 in
theorem impl_in.calls (a0 : Int) (a1 : Int) (a2 : Int) (r : Bool) (w : World) (h : impl_in.f a0 a1 a2 = some r) :
    Calls Tryd.prog 29 #[.int .i64 a0, .int .i64 a1, .int .i64 a2] w fun e w' => e = .returned (.bool r) ∧ Drawn0 w w' := by
  have H : (if a0 ≥ a1 then (some (decide (a0 ≤ a2))) else (some false)) = some r := h
  clear h
  by_cases c4 : a0 ≥ a1
  · rw [if_pos c4] at H
    have c4b0 : decide (a1 ≤ a0) = true := decide_eq_true c4
    clear c4
    obtain rfl := Option.some.inj H
    go_enter Tryd.func29, Tryd.ntmps29
    go_wp2
    go_ret
    exact ⟨by first | rfl | (simp; done) | (simp [*]; done), by repeat (first | exact Drawn0.refl _ | apply Drawn0.step)⟩
  · rw [if_neg c4] at H
    have c4b0 : decide (a1 ≤ a0) = false := decide_eq_false c4
    clear c4
    obtain rfl := Option.some.inj H
    go_enter Tryd.func29, Tryd.ntmps29
    go_wp2
    go_ret
    exact ⟨by first | rfl | (simp; done) | (simp [*]; done), by repeat (first | exact Drawn0.refl _ | apply Drawn0.step)⟩

/-! ### impl_abs: function 30 -/
def impl_abs.f (a0 : Int) : Option (Int) := some (mx a0 (wrap64 (-a0)))
set_option maxHeartbeats 8000000 in
set_option maxRecDepth 100000 in
theorem impl_abs.calls (a0 : Int) (r : Int) (w : World) (h : impl_abs.f a0 = some r) :
    Calls Tryd.prog 30 #[.int .i64 a0] w fun e w' => e = .returned (.int .i64 r) ∧ Below w.heap.size w w' := by
  have HB := Aside0.mk (Below.refl w.heap.size w)
  have H : (some (mx a0 (wrap64 (-a0)))) = some r := h
  clear h
  obtain ⟨ji2, hji2⟩ : ∃ j_ : Int, (mx a0 (wrap64 (-a0))) = j_ := ⟨_, rfl⟩
  replace H : (some ji2) = some r := by first | (rw [hji2] at H; exact H) | (simp only [hji2] at H ⊢; exact H)
  have hji2_ : (if a0 < (wrap64 (-a0)) then (wrap64 (-a0)) else a0) = ji2 := hji2
  obtain rfl := Option.some.inj H
  go_enter Tryd.func30, Tryd.ntmps30
  go_wp2
  go_ret
  exact ⟨by first | rfl | (simp [errW_none, errW_some] <;> rfl) | (simp only [← hji2]; first | rfl | (simp [errW_none, errW_some] <;> rfl)) | (simp [*, errW_none, errW_some] <;> rfl), by repeat (first | (with_reducible first | exact HB.out | apply below_alloc | apply pw_below_drewN | apply below_drew1) | exact HB.out)⟩

/-! ### impl_decimal: function 31 -/
-- TAB: these functions' contracts want the table internal/strconv.uint64pow10 and three of the library's variables (q.py carries the fact hT through their callers).
structure TabAt (w : World) : Prop where
  tab : Lib.TabBelow Tryd.prog w.heap.size w "internal/strconv.uint64pow10" .u64 Lib.pow10Tab
  most : ∃ m, w.cell? ⟨0, 0, none⟩ = some (.int .i64 m)
  syn : ∃ t p, w.cell? ⟨2, 0, none⟩ = some (.iface t p)
  ran : ∃ t p, w.cell? ⟨3, 0, none⟩ = some (.iface t p)
theorem tabAt_on {w W : World} (h : Aside0 (TabAt w)) (hb : Below w.heap.size w W) : Aside0 (TabAt W) :=
  ⟨⟨fun w' h' => h.out.tab w' (below_step hb h'), h.out.most.elim fun m e => ⟨m, pw_cell_below hb e⟩, h.out.syn.elim fun t e => e.elim fun p e => ⟨t, p, pw_cell_below hb e⟩, h.out.ran.elim fun t e => e.elim fun p e => ⟨t, p, pw_cell_below hb e⟩⟩⟩
def impl_decimal.f (k : Nat) (a0 : Int) : Option (ByteArray) := if -9223372036854775808 ≤ a0 then (if a0 ≤ 9223372036854775807 then (some ⟨(Lib.itoa a0).toArray⟩) else (none)) else (none)
theorem impl_decimal.mono : ∀ a0 k, LeO (impl_decimal.f k a0) (impl_decimal.f (k + 1) a0) := fun _ _ => LeO.refl _
set_option maxHeartbeats 8000000 in
set_option maxRecDepth 100000 in
theorem impl_decimal.calls (k : Nat) (a0 : Int) (r : ByteArray) (w : World) (h : impl_decimal.f k a0 = some r) (hT : Aside0 (TabAt w)) :
    Calls Tryd.prog 31 #[.int .i64 a0] w fun e w' => e = .returned (.string r) ∧ Below w.heap.size w w' := by
  unfold impl_decimal.f at h
  by_cases h0 : -9223372036854775808 ≤ a0
  · by_cases h1 : a0 ≤ 9223372036854775807
    · rw [if_pos h0, if_pos h1] at h
      obtain rfl := Option.some.inj h
      go_enter Tryd.func31, Tryd.ntmps31
      go_wp2_with (go_at_call 52; refine (Tryd.strconv_FormatInt_10 a0 h0 h1 _ (Lib.TabBelow.here (tabAt_on hT (by repeat (first | exact Below.refl _ _ | apply pw_below_drewN | apply below_drew1))).out.tab)).mono ?_; rintro e w' ⟨rfl, nk, os, rfl⟩)
      go_ret
      exact ⟨rfl, by repeat (first | exact Lib.below_grow _ _ (Nat.le_refl _) _ _ | apply pw_below_drewN | apply below_drew1)⟩
    · rw [if_pos h0, if_neg h1] at h
      exact absurd h (by simp)
  · rw [if_neg h0] at h
    exact absurd h (by simp)

/-! ### impl_padded: function 32 -/
def impl_padded.l0 : Nat → Int → ByteArray → Option (ByteArray)
  | 0, _, _ => none
  | k + 1, x1, x5 => if (x5.size : Int) < x1 then (if 1 + x5.size ≤ 9223372036854775807 then (impl_padded.l0 k x1 ((⟨#[48]⟩ : ByteArray) ++ x5)) else (none)) else (some x5)
def impl_padded.f (k : Nat) (a0 : Int) (a1 : Int) : Option (ByteArray) := (impl_decimal.f k a0).bind fun t157 => (impl_padded.l0 k a1 t157)
theorem impl_padded.mono_l : ∀ k, (∀ y0 y1, LeO (impl_padded.l0 k y0 y1) (impl_padded.l0 (k + 1) y0 y1))
  | 0 => fun _ _ r h => by simp [impl_padded.l0] at h
  | k + 1 => by
    have ih0 := impl_padded.mono_l k
    · intro y0 y1
      unfold impl_padded.l0
      repeat' first
      | (with_reducible exact ih0 _ _)
      | (with_reducible exact impl_decimal.mono _ _)
      | (with_reducible exact LeO.refl _)
      | (with_reducible exact LeO.none _)
      | (with_reducible refine LeO.ite ?_ ?_)
      | (with_reducible refine LeO.bind ?_ (fun _ => ?_))
      | exact ih0 _ _
      | exact impl_decimal.mono _ _
      | exact LeO.none _
      | refine LeO.ite ?_ ?_
      | refine LeO.bind ?_ (fun _ => ?_)
theorem impl_padded.mono : ∀ a0 a1 k, LeO (impl_padded.f k a0 a1) (impl_padded.f (k + 1) a0 a1) := by
  intro a0 a1 k
  have ih0 := impl_padded.mono_l k
  unfold impl_padded.f
  repeat' first
      | (with_reducible exact ih0 _ _)
      | (with_reducible exact impl_decimal.mono _ _)
      | (with_reducible exact LeO.refl _)
      | (with_reducible exact LeO.none _)
      | (with_reducible refine LeO.ite ?_ ?_)
      | (with_reducible refine LeO.bind ?_ (fun _ => ?_))
      | exact ih0 _ _
      | exact impl_decimal.mono _ _
      | exact LeO.none _
      | refine LeO.ite ?_ ?_
      | refine LeO.bind ?_ (fun _ => ?_)
set_option maxHeartbeats 8000000 in
set_option maxRecDepth 100000 in
theorem impl_padded.calls (k : Nat) (a0 : Int) (a1 : Int) (r : ByteArray) (w : World) (h : impl_padded.f k a0 a1 = some r) (hT : Aside0 (TabAt w)) :
    Calls Tryd.prog 32 #[.int .i64 a0, .int .i64 a1] w fun e w' => e = .returned (.string r) ∧ Below w.heap.size w w' := by
  have HB := Aside0.mk (Below.refl w.heap.size w)
  have H : ((impl_decimal.f k a0).bind fun t157 => (impl_padded.l0 k a1 t157)) = some r := h
  clear h
  replace H := Option.bind_eq_some_iff.mp H
  obtain ⟨t157, A30, H⟩ := H
  replace H : (impl_padded.l0 k a1 t157) = some r := H
  have A3 := Aside0.mk A30
  clear A30
  have H' := Aside0.mk H
  clear H
  go_enter Tryd.func32, Tryd.ntmps32
  go_wp2_with (first | ((with_reducible refine gate_callee (f := 31) rfl ?_); refine goesL_ (some 7) rfl rfl Tryd.func31 (by kernel_rfl) rfl #[.int .i64 a0] rfl (by (try simp only [List.map_toArray, List.map_cons, List.map_nil]); first | done | rfl | (simp only [List.length_drop, List.length_take]; rfl)) ?_; (with_reducible refine (impl_decimal.calls k a0 t157 _ A3.out (tabAt_on hT (by repeat (first | (with_reducible first | exact HB.out | apply below_alloc | apply pw_below_drewN | apply below_drew1 | refine below_set ?_ (Aside0.out (by assumption))) | exact HB.out)))).mono ?_); rintro e w4 ⟨rfl, hb⟩; refine ⟨_, rfl, ?_⟩; have n0_ := Aside0.mk (below_step (by repeat (first | (with_reducible first | exact HB.out | apply below_alloc | apply pw_below_drewN | apply below_drew1) | exact HB.out)) hb); clear HB; have HB := n0_; clear n0_; (try clear hb); (try clear hb2); (try clear hk); (try clear hi)))
  go_loopg [5] k (fun kq v5 w' => ∃ (x5_1 : ByteArray), v5 = .string x5_1 ∧ Aside0 (impl_padded.l0 kq a1 x5_1 = some r) ∧ Aside0 (kq ≤ k) ∧ Aside0 (Below w.heap.size w w'))
  case atStart => exact ⟨(t157), (by first | rfl | (simp; done) | (simp [*]; done)), H', ⟨Nat.le_refl _⟩, ⟨by repeat (first | (with_reducible first | exact HB.out | apply below_alloc | apply pw_below_drewN | apply below_drew1) | exact HB.out)⟩⟩
  case round =>
    clear H'
    try clear p2
    try clear c3
    obtain ⟨x5_1, rfl, HA, HK1, HB⟩ := hrel
    cases gk with
    | zero => exact absurd HA.out (by simp [impl_padded.l0])
    | succ k1 =>
      have H := HA.out
      clear HA
      simp only [impl_padded.l0] at H
      by_cases c5 : (x5_1.size : Int) < a1
      · rw [if_pos c5] at H
        have c5b0 : decide ((x5_1.size : Int) < a1) = true := decide_eq_true c5
        clear c5
        by_cases c6 : 1 + x5_1.size ≤ 9223372036854775807
        · rw [if_pos c6] at H
          have c6b0 := eq_true c6
          have c6b1 : decide (1 + x5_1.size ≤ 9223372036854775807) = true := decide_eq_true c6
          try have c6b2 : (9223372036854775807 < 1 + x5_1.size) = False := eq_false (Nat.not_lt.2 c6)
          have H' := Aside0.mk H
          clear H
          go_wp2
          go_roundg k1
          case measure => have := HK1.out; omega
          case rel => exact ⟨((⟨#[48]⟩ : ByteArray) ++ x5_1), (by first | rfl | (simp; done) | (simp [*]; done)), H', ⟨by have := HK1.out; omega⟩, ⟨by repeat (first | (with_reducible first | exact HB.out | apply below_alloc | apply pw_below_drewN | apply below_drew1) | exact HB.out)⟩⟩
        · rw [if_neg c6] at H
          exact absurd H (by simp)
      · rw [if_neg c5] at H
        have c5b0 : decide ((x5_1.size : Int) < a1) = false := decide_eq_false c5
        clear c5
        obtain rfl := Option.some.inj H
        go_wp2
        go_ret
        exact ⟨by first | rfl | (simp [errW_none, errW_some] <;> rfl) | (simp [*, errW_none, errW_some] <;> rfl), by repeat (first | (with_reducible first | exact HB.out | apply below_alloc | apply pw_below_drewN | apply below_drew1) | exact HB.out)⟩

/-! ### impl_AngleText: function 10 -/
def impl_AngleText.j0 : Nat → Int → ByteArray → Option (ByteArray × Int)
  | 0, _, _ => none
  | k + 1, x0, x4 => (impl_abs.f x0).bind fun t159 => ((impl_decimal.f k (wrap64 (Int.tdiv t159 3600))).bind fun t160 => (if x4.size + t160.size ≤ 9223372036854775807 then (if (x4 ++ t160).size + 1 ≤ 9223372036854775807 then ((impl_padded.f k (Int.tmod (wrap64 (Int.tdiv t159 60)) 60) 2).bind fun t161 => (if ((x4 ++ t160) ++ (⟨#[100]⟩ : ByteArray)).size + t161.size ≤ 9223372036854775807 then (if (((x4 ++ t160) ++ (⟨#[100]⟩ : ByteArray)) ++ t161).size + 1 ≤ 9223372036854775807 then ((impl_padded.f k (Int.tmod t159 60) 2).bind fun t162 => (if ((((x4 ++ t160) ++ (⟨#[100]⟩ : ByteArray)) ++ t161) ++ (⟨#[109]⟩ : ByteArray)).size + t162.size ≤ 9223372036854775807 then (if (((((x4 ++ t160) ++ (⟨#[100]⟩ : ByteArray)) ++ t161) ++ (⟨#[109]⟩ : ByteArray)) ++ t162).size + 1 ≤ 9223372036854775807 then (some ((((((x4 ++ t160) ++ (⟨#[100]⟩ : ByteArray)) ++ t161) ++ (⟨#[109]⟩ : ByteArray)) ++ t162) ++ (⟨#[115]⟩ : ByteArray), 0)) else (none)) else (none))) else (none)) else (none))) else (none)) else (none)))
def impl_AngleText.f (k : Nat) (a0 : Int) : Option (ByteArray × Int) := (impl_in.f a0 (-648000) 1296000).bind fun t158 => (if t158 = true then (if a0 < 0 then (impl_AngleText.j0 k a0 (⟨#[45]⟩ : ByteArray)) else (impl_AngleText.j0 k a0 (⟨#[]⟩ : ByteArray))) else (some ((⟨#[]⟩ : ByteArray), 2)))
theorem impl_AngleText.mono_l : ∀ k, (∀ y0 y1, LeO (impl_AngleText.j0 k y0 y1) (impl_AngleText.j0 (k + 1) y0 y1))
  | 0 => fun _ _ r h => by simp [impl_AngleText.j0] at h
  | k + 1 => by
    have ih0 := impl_AngleText.mono_l k
    · intro y0 y1
      unfold impl_AngleText.j0
      repeat' first
      | (with_reducible exact ih0 _ _)
      | (with_reducible exact impl_decimal.mono _ _)
      | (with_reducible exact impl_padded.mono _ _ _)
      | (with_reducible exact LeO.refl _)
      | (with_reducible exact LeO.none _)
      | (with_reducible refine LeO.ite ?_ ?_)
      | (with_reducible refine LeO.bind ?_ (fun _ => ?_))
      | exact ih0 _ _
      | exact impl_decimal.mono _ _
      | exact impl_padded.mono _ _ _
      | exact LeO.none _
      | refine LeO.ite ?_ ?_
      | refine LeO.bind ?_ (fun _ => ?_)
theorem impl_AngleText.mono : ∀ a0 k, LeO (impl_AngleText.f k a0) (impl_AngleText.f (k + 1) a0) := by
  intro a0 k
  have ih0 := impl_AngleText.mono_l k
  unfold impl_AngleText.f
  repeat' first
      | (with_reducible exact ih0 _ _)
      | (with_reducible exact impl_decimal.mono _ _)
      | (with_reducible exact impl_padded.mono _ _ _)
      | (with_reducible exact LeO.refl _)
      | (with_reducible exact LeO.none _)
      | (with_reducible refine LeO.ite ?_ ?_)
      | (with_reducible refine LeO.bind ?_ (fun _ => ?_))
      | exact ih0 _ _
      | exact impl_decimal.mono _ _
      | exact impl_padded.mono _ _ _
      | exact LeO.none _
      | refine LeO.ite ?_ ?_
      | refine LeO.bind ?_ (fun _ => ?_)
set_option maxHeartbeats 8000000 in
set_option maxRecDepth 100000 in
theorem impl_AngleText.calls (k : Nat) (a0 : Int) (r1 : ByteArray) (r2 : Int) (w : World) (h : impl_AngleText.f k a0 = some (r1, r2)) (hT : Aside0 (TabAt w)) :
    Calls Tryd.prog 10 #[.int .i64 a0] w fun e w' => e = .returned (.tuple #[.string r1, .int .i64 r2]) ∧ Below w.heap.size w w' := by
  have HB := Aside0.mk (Below.refl w.heap.size w)
  have H : ((impl_in.f a0 (-648000) 1296000).bind fun t158 => (if t158 = true then (if a0 < 0 then (impl_AngleText.j0 k a0 (⟨#[45]⟩ : ByteArray)) else (impl_AngleText.j0 k a0 (⟨#[]⟩ : ByteArray))) else (some ((⟨#[]⟩ : ByteArray), 2)))) = some (r1, r2) := h
  clear h
  replace H := Option.bind_eq_some_iff.mp H
  obtain ⟨t158, A20, H⟩ := H
  replace H : (if t158 = true then (if a0 < 0 then (impl_AngleText.j0 k a0 (⟨#[45]⟩ : ByteArray)) else (impl_AngleText.j0 k a0 (⟨#[]⟩ : ByteArray))) else (some ((⟨#[]⟩ : ByteArray), 2))) = some (r1, r2) := H
  have A2 := Aside0.mk A20
  clear A20
  by_cases c3 : t158 = true
  · subst c3
    have H1 : (if a0 < 0 then (impl_AngleText.j0 k a0 (⟨#[45]⟩ : ByteArray)) else (impl_AngleText.j0 k a0 (⟨#[]⟩ : ByteArray))) = some (r1, r2) := by rw [if_pos rfl] at H; exact H
    clear H
    have H := H1
    clear H1
    have HC4 := Aside0.mk H
    clear H
    go_enter Tryd.func10, Tryd.ntmps10
    go_upto_if 9 with (first | ((with_reducible refine gate_callee (f := 29) rfl ?_); refine goesL_ (some 6) rfl rfl Tryd.func29 (by kernel_rfl) rfl #[.int .i64 a0, .int .i64 (-648000), .int .i64 1296000] rfl (by (try simp only [List.map_toArray, List.map_cons, List.map_nil]); first | done | rfl | (simp only [List.length_drop, List.length_take]; rfl)) ?_; (with_reducible refine (impl_in.calls a0 (-648000) 1296000 true _ A2.out).mono ?_); rintro e w' ⟨rfl, ⟨nd, rfl⟩⟩; refine ⟨_, rfl, ?_⟩))
    (try simp only [Act.put, List.setIfInBounds_toArray, List.set_cons_zero, List.set_cons_succ])
    go_cut [4] (fun v4 wc => ∃ (kq : Nat) (x4_3 : ByteArray), v4 = .string x4_3 ∧ Aside0 (impl_AngleText.j0 kq a0 x4_3 = some (r1, r2)) ∧ Aside0 (kq ≤ k) ∧ Aside0 (Below w.heap.size w wc))
    case first =>
      have H := HC4.out
      clear HC4
      by_cases c5 : a0 < 0
      · rw [if_pos c5] at H
        have c5b0 : decide (a0 < 0) = true := decide_eq_true c5
        clear c5
        (first | rw [c5b0] | (simp only [i64_w, i32_w]; rw [c5b0]) | skip)
        have H' := Aside0.mk H
        clear H
        go_wp2
        go_meet
        case rel => exact ⟨_, ((⟨#[45]⟩ : ByteArray)), (by first | rfl | (simp; done) | (simp [*]; done)), H', ⟨by first | omega | exact Nat.le_refl _⟩, ⟨by repeat (first | (with_reducible first | exact HB.out | apply below_alloc | apply pw_below_drewN | apply below_drew1) | exact HB.out)⟩⟩
      · rw [if_neg c5] at H
        have c5b0 : decide (a0 < 0) = false := decide_eq_false c5
        clear c5
        (first | rw [c5b0] | (simp only [i64_w, i32_w]; rw [c5b0]) | skip)
        have H' := Aside0.mk H
        clear H
        go_wp2
        go_meet
        case rel => exact ⟨_, ((⟨#[]⟩ : ByteArray)), (by first | rfl | (simp; done) | (simp [*]; done)), H', ⟨by first | omega | exact Nat.le_refl _⟩, ⟨by repeat (first | (with_reducible first | exact HB.out | apply below_alloc | apply pw_below_drewN | apply below_drew1) | exact HB.out)⟩⟩
    case rest =>
      clear HC4
      try clear c1
      try clear c2
      try clear p2
      try clear c3
      try clear c5
      try clear c5b0
      obtain ⟨kq, x4_3, rfl, HA, HJ3, HB⟩ := hcut
      cases kq with
      | zero => exact absurd HA.out (by simp [impl_AngleText.j0])
      | succ kj3 =>
        have H := HA.out
        clear HA
        simp only [impl_AngleText.j0] at H
        replace H := Option.bind_eq_some_iff.mp H
        obtain ⟨t159, A60, H⟩ := H
        replace H : ((impl_decimal.f kj3 (wrap64 (Int.tdiv t159 3600))).bind fun t160 => (if x4_3.size + t160.size ≤ 9223372036854775807 then (if (x4_3 ++ t160).size + 1 ≤ 9223372036854775807 then ((impl_padded.f kj3 (Int.tmod (wrap64 (Int.tdiv t159 60)) 60) 2).bind fun t161 => (if ((x4_3 ++ t160) ++ (⟨#[100]⟩ : ByteArray)).size + t161.size ≤ 9223372036854775807 then (if (((x4_3 ++ t160) ++ (⟨#[100]⟩ : ByteArray)) ++ t161).size + 1 ≤ 9223372036854775807 then ((impl_padded.f kj3 (Int.tmod t159 60) 2).bind fun t162 => (if ((((x4_3 ++ t160) ++ (⟨#[100]⟩ : ByteArray)) ++ t161) ++ (⟨#[109]⟩ : ByteArray)).size + t162.size ≤ 9223372036854775807 then (if (((((x4_3 ++ t160) ++ (⟨#[100]⟩ : ByteArray)) ++ t161) ++ (⟨#[109]⟩ : ByteArray)) ++ t162).size + 1 ≤ 9223372036854775807 then (some ((((((x4_3 ++ t160) ++ (⟨#[100]⟩ : ByteArray)) ++ t161) ++ (⟨#[109]⟩ : ByteArray)) ++ t162) ++ (⟨#[115]⟩ : ByteArray), 0)) else (none)) else (none))) else (none)) else (none))) else (none)) else (none))) = some (r1, r2) := H
        have A6 := Aside0.mk A60
        clear A60
        replace H := Option.bind_eq_some_iff.mp H
        obtain ⟨t160, A70, H⟩ := H
        replace H : (if x4_3.size + t160.size ≤ 9223372036854775807 then (if (x4_3 ++ t160).size + 1 ≤ 9223372036854775807 then ((impl_padded.f kj3 (Int.tmod (wrap64 (Int.tdiv t159 60)) 60) 2).bind fun t161 => (if ((x4_3 ++ t160) ++ (⟨#[100]⟩ : ByteArray)).size + t161.size ≤ 9223372036854775807 then (if (((x4_3 ++ t160) ++ (⟨#[100]⟩ : ByteArray)) ++ t161).size + 1 ≤ 9223372036854775807 then ((impl_padded.f kj3 (Int.tmod t159 60) 2).bind fun t162 => (if ((((x4_3 ++ t160) ++ (⟨#[100]⟩ : ByteArray)) ++ t161) ++ (⟨#[109]⟩ : ByteArray)).size + t162.size ≤ 9223372036854775807 then (if (((((x4_3 ++ t160) ++ (⟨#[100]⟩ : ByteArray)) ++ t161) ++ (⟨#[109]⟩ : ByteArray)) ++ t162).size + 1 ≤ 9223372036854775807 then (some ((((((x4_3 ++ t160) ++ (⟨#[100]⟩ : ByteArray)) ++ t161) ++ (⟨#[109]⟩ : ByteArray)) ++ t162) ++ (⟨#[115]⟩ : ByteArray), 0)) else (none)) else (none))) else (none)) else (none))) else (none)) else (none)) = some (r1, r2) := H
        have A7 := Aside0.mk A70
        clear A70
        by_cases c8 : x4_3.size + t160.size ≤ 9223372036854775807
        · rw [if_pos c8] at H
          have c8b0 := eq_true c8
          have c8b1 : decide (x4_3.size + t160.size ≤ 9223372036854775807) = true := decide_eq_true c8
          try have c8b2 : (9223372036854775807 < x4_3.size + t160.size) = False := eq_false (Nat.not_lt.2 c8)
          by_cases c9 : (x4_3 ++ t160).size + 1 ≤ 9223372036854775807
          · rw [if_pos c9] at H
            have c9b0 := eq_true c9
            have c9b1 : decide ((x4_3 ++ t160).size + 1 ≤ 9223372036854775807) = true := decide_eq_true c9
            have c9z0 : (9223372036854775807 < x4_3.size + t160.size + 1) = False := eq_false (Nat.not_lt.2 (by have hq_ := c9; have e0_ : (⟨#[]⟩ : ByteArray).size = 0 := rfl; have e1_ : ∀ x : UInt8, (⟨#[x]⟩ : ByteArray).size = 1 := fun _ => rfl; (try simp only [ByteArray.size_append, e0_, e1_] at hq_); omega))
            try have c9b2 : (9223372036854775807 < (x4_3 ++ t160).size + 1) = False := eq_false (Nat.not_lt.2 c9)
            replace H := Option.bind_eq_some_iff.mp H
            obtain ⟨t161, A100, H⟩ := H
            replace H : (if ((x4_3 ++ t160) ++ (⟨#[100]⟩ : ByteArray)).size + t161.size ≤ 9223372036854775807 then (if (((x4_3 ++ t160) ++ (⟨#[100]⟩ : ByteArray)) ++ t161).size + 1 ≤ 9223372036854775807 then ((impl_padded.f kj3 (Int.tmod t159 60) 2).bind fun t162 => (if ((((x4_3 ++ t160) ++ (⟨#[100]⟩ : ByteArray)) ++ t161) ++ (⟨#[109]⟩ : ByteArray)).size + t162.size ≤ 9223372036854775807 then (if (((((x4_3 ++ t160) ++ (⟨#[100]⟩ : ByteArray)) ++ t161) ++ (⟨#[109]⟩ : ByteArray)) ++ t162).size + 1 ≤ 9223372036854775807 then (some ((((((x4_3 ++ t160) ++ (⟨#[100]⟩ : ByteArray)) ++ t161) ++ (⟨#[109]⟩ : ByteArray)) ++ t162) ++ (⟨#[115]⟩ : ByteArray), 0)) else (none)) else (none))) else (none)) else (none)) = some (r1, r2) := H
            have A10 := Aside0.mk A100
            clear A100
            by_cases c11 : ((x4_3 ++ t160) ++ (⟨#[100]⟩ : ByteArray)).size + t161.size ≤ 9223372036854775807
            · rw [if_pos c11] at H
              have c11b0 := eq_true c11
              have c11b1 : decide (((x4_3 ++ t160) ++ (⟨#[100]⟩ : ByteArray)).size + t161.size ≤ 9223372036854775807) = true := decide_eq_true c11
              have c11z0 : (9223372036854775807 < x4_3.size + t160.size + 1 + t161.size) = False := eq_false (Nat.not_lt.2 (by have hq_ := c11; have e0_ : (⟨#[]⟩ : ByteArray).size = 0 := rfl; have e1_ : ∀ x : UInt8, (⟨#[x]⟩ : ByteArray).size = 1 := fun _ => rfl; (try simp only [ByteArray.size_append, e0_, e1_] at hq_); omega))
              try have c11b2 : (9223372036854775807 < ((x4_3 ++ t160) ++ (⟨#[100]⟩ : ByteArray)).size + t161.size) = False := eq_false (Nat.not_lt.2 c11)
              by_cases c12 : (((x4_3 ++ t160) ++ (⟨#[100]⟩ : ByteArray)) ++ t161).size + 1 ≤ 9223372036854775807
              · rw [if_pos c12] at H
                have c12b0 := eq_true c12
                have c12b1 : decide ((((x4_3 ++ t160) ++ (⟨#[100]⟩ : ByteArray)) ++ t161).size + 1 ≤ 9223372036854775807) = true := decide_eq_true c12
                have c12z0 : (9223372036854775807 < x4_3.size + t160.size + 1 + t161.size + 1) = False := eq_false (Nat.not_lt.2 (by have hq_ := c12; have e0_ : (⟨#[]⟩ : ByteArray).size = 0 := rfl; have e1_ : ∀ x : UInt8, (⟨#[x]⟩ : ByteArray).size = 1 := fun _ => rfl; (try simp only [ByteArray.size_append, e0_, e1_] at hq_); omega))
                try have c12b2 : (9223372036854775807 < (((x4_3 ++ t160) ++ (⟨#[100]⟩ : ByteArray)) ++ t161).size + 1) = False := eq_false (Nat.not_lt.2 c12)
                replace H := Option.bind_eq_some_iff.mp H
                obtain ⟨t162, A130, H⟩ := H
                replace H : (if ((((x4_3 ++ t160) ++ (⟨#[100]⟩ : ByteArray)) ++ t161) ++ (⟨#[109]⟩ : ByteArray)).size + t162.size ≤ 9223372036854775807 then (if (((((x4_3 ++ t160) ++ (⟨#[100]⟩ : ByteArray)) ++ t161) ++ (⟨#[109]⟩ : ByteArray)) ++ t162).size + 1 ≤ 9223372036854775807 then (some ((((((x4_3 ++ t160) ++ (⟨#[100]⟩ : ByteArray)) ++ t161) ++ (⟨#[109]⟩ : ByteArray)) ++ t162) ++ (⟨#[115]⟩ : ByteArray), 0)) else (none)) else (none)) = some (r1, r2) := H
                have A13 := Aside0.mk A130
                clear A130
                by_cases c14 : ((((x4_3 ++ t160) ++ (⟨#[100]⟩ : ByteArray)) ++ t161) ++ (⟨#[109]⟩ : ByteArray)).size + t162.size ≤ 9223372036854775807
                · rw [if_pos c14] at H
                  have c14b0 := eq_true c14
                  have c14b1 : decide (((((x4_3 ++ t160) ++ (⟨#[100]⟩ : ByteArray)) ++ t161) ++ (⟨#[109]⟩ : ByteArray)).size + t162.size ≤ 9223372036854775807) = true := decide_eq_true c14
                  have c14z0 : (9223372036854775807 < x4_3.size + t160.size + 1 + t161.size + 1 + t162.size) = False := eq_false (Nat.not_lt.2 (by have hq_ := c14; have e0_ : (⟨#[]⟩ : ByteArray).size = 0 := rfl; have e1_ : ∀ x : UInt8, (⟨#[x]⟩ : ByteArray).size = 1 := fun _ => rfl; (try simp only [ByteArray.size_append, e0_, e1_] at hq_); omega))
                  try have c14b2 : (9223372036854775807 < ((((x4_3 ++ t160) ++ (⟨#[100]⟩ : ByteArray)) ++ t161) ++ (⟨#[109]⟩ : ByteArray)).size + t162.size) = False := eq_false (Nat.not_lt.2 c14)
                  by_cases c15 : (((((x4_3 ++ t160) ++ (⟨#[100]⟩ : ByteArray)) ++ t161) ++ (⟨#[109]⟩ : ByteArray)) ++ t162).size + 1 ≤ 9223372036854775807
                  · rw [if_pos c15] at H
                    have c15b0 := eq_true c15
                    have c15b1 : decide ((((((x4_3 ++ t160) ++ (⟨#[100]⟩ : ByteArray)) ++ t161) ++ (⟨#[109]⟩ : ByteArray)) ++ t162).size + 1 ≤ 9223372036854775807) = true := decide_eq_true c15
                    have c15z0 : (9223372036854775807 < x4_3.size + t160.size + 1 + t161.size + 1 + t162.size + 1) = False := eq_false (Nat.not_lt.2 (by have hq_ := c15; have e0_ : (⟨#[]⟩ : ByteArray).size = 0 := rfl; have e1_ : ∀ x : UInt8, (⟨#[x]⟩ : ByteArray).size = 1 := fun _ => rfl; (try simp only [ByteArray.size_append, e0_, e1_] at hq_); omega))
                    try have c15b2 : (9223372036854775807 < (((((x4_3 ++ t160) ++ (⟨#[100]⟩ : ByteArray)) ++ t161) ++ (⟨#[109]⟩ : ByteArray)) ++ t162).size + 1) = False := eq_false (Nat.not_lt.2 c15)
                    simp only [Option.some.injEq, Prod.mk.injEq] at H
                    obtain ⟨rfl, rfl⟩ := H
                    go_wp2_with (first | ((with_reducible refine gate_callee (f := 30) rfl ?_); refine goesL_ (some 11) rfl rfl Tryd.func30 (by kernel_rfl) rfl #[.int .i64 a0] rfl (by (try simp only [List.map_toArray, List.map_cons, List.map_nil]); first | done | rfl | (simp only [List.length_drop, List.length_take]; rfl)) ?_; (with_reducible refine (impl_abs.calls a0 t159 _ A6.out).mono ?_); rintro e w16 ⟨rfl, hb⟩; refine ⟨_, rfl, ?_⟩; have n0_ := Aside0.mk (below_step (by repeat (first | (with_reducible first | exact HB.out | apply below_alloc | apply pw_below_drewN | apply below_drew1) | exact HB.out)) hb); clear HB; have HB := n0_; clear n0_; (try clear hb); (try clear hb2); (try clear hk); (try clear hi)) | ((with_reducible refine gate_callee (f := 31) rfl ?_); refine goesL_ (some 15) rfl rfl Tryd.func31 (by kernel_rfl) rfl #[.int .i64 (wrap64 (Int.tdiv t159 3600))] rfl (by (try simp only [List.map_toArray, List.map_cons, List.map_nil]); first | done | rfl | (simp only [List.length_drop, List.length_take]; rfl)) ?_; (with_reducible refine (impl_decimal.calls kj3 (wrap64 (Int.tdiv t159 3600)) t160 _ A7.out (tabAt_on hT (by repeat (first | (with_reducible first | exact HB.out | apply below_alloc | apply pw_below_drewN | apply below_drew1 | refine below_set ?_ (Aside0.out (by assumption))) | exact HB.out)))).mono ?_); rintro e w17 ⟨rfl, hb⟩; refine ⟨_, rfl, ?_⟩; have n0_ := Aside0.mk (below_step (by repeat (first | (with_reducible first | exact HB.out | apply below_alloc | apply pw_below_drewN | apply below_drew1) | exact HB.out)) hb); clear HB; have HB := n0_; clear n0_; (try clear hb); (try clear hb2); (try clear hk); (try clear hi)) | ((with_reducible refine gate_callee (f := 32) rfl ?_); refine goesL_ (some 21) rfl rfl Tryd.func32 (by kernel_rfl) rfl #[.int .i64 (Int.tmod (wrap64 (Int.tdiv t159 60)) 60), .int .i64 2] rfl (by (try simp only [List.map_toArray, List.map_cons, List.map_nil]); first | done | rfl | (simp only [List.length_drop, List.length_take]; rfl)) ?_; (with_reducible refine (impl_padded.calls kj3 (Int.tmod (wrap64 (Int.tdiv t159 60)) 60) 2 t161 _ A10.out (tabAt_on hT (by repeat (first | (with_reducible first | exact HB.out | apply below_alloc | apply pw_below_drewN | apply below_drew1 | refine below_set ?_ (Aside0.out (by assumption))) | exact HB.out)))).mono ?_); rintro e w18 ⟨rfl, hb⟩; refine ⟨_, rfl, ?_⟩; have n0_ := Aside0.mk (below_step (by repeat (first | (with_reducible first | exact HB.out | apply below_alloc | apply pw_below_drewN | apply below_drew1) | exact HB.out)) hb); clear HB; have HB := n0_; clear n0_; (try clear hb); (try clear hb2); (try clear hk); (try clear hi)) | ((with_reducible refine gate_callee (f := 32) rfl ?_); refine goesL_ (some 26) rfl rfl Tryd.func32 (by kernel_rfl) rfl #[.int .i64 (Int.tmod t159 60), .int .i64 2] rfl (by (try simp only [List.map_toArray, List.map_cons, List.map_nil]); first | done | rfl | (simp only [List.length_drop, List.length_take]; rfl)) ?_; (with_reducible refine (impl_padded.calls kj3 (Int.tmod t159 60) 2 t162 _ A13.out (tabAt_on hT (by repeat (first | (with_reducible first | exact HB.out | apply below_alloc | apply pw_below_drewN | apply below_drew1 | refine below_set ?_ (Aside0.out (by assumption))) | exact HB.out)))).mono ?_); rintro e w19 ⟨rfl, hb⟩; refine ⟨_, rfl, ?_⟩; have n0_ := Aside0.mk (below_step (by repeat (first | (with_reducible first | exact HB.out | apply below_alloc | apply pw_below_drewN | apply below_drew1) | exact HB.out)) hb); clear HB; have HB := n0_; clear n0_; (try clear hb); (try clear hb2); (try clear hk); (try clear hi)))
                    go_ret2
                    exact ⟨by first | rfl | (simp [errW_none, errW_some] <;> rfl) | (simp [*, errW_none, errW_some] <;> rfl), by repeat (first | (with_reducible first | exact HB.out | apply below_alloc | apply pw_below_drewN | apply below_drew1) | exact HB.out)⟩
                  · rw [if_neg c15] at H
                    exact absurd H (by simp)
                · rw [if_neg c14] at H
                  exact absurd H (by simp)
              · rw [if_neg c12] at H
                exact absurd H (by simp)
            · rw [if_neg c11] at H
              exact absurd H (by simp)
          · rw [if_neg c9] at H
            exact absurd H (by simp)
        · rw [if_neg c8] at H
          exact absurd H (by simp)
  · replace c3 := Bool.eq_false_iff.mpr c3
    subst c3
    have H1 : (some ((⟨#[]⟩ : ByteArray), 2)) = some (r1, r2) := by rw [if_neg (show ¬ (false = true) by decide)] at H; exact H
    clear H
    have H := H1
    clear H1
    simp only [Option.some.injEq, Prod.mk.injEq] at H
    obtain ⟨rfl, rfl⟩ := H
    go_enter Tryd.func10, Tryd.ntmps10
    go_wp2_with (first | ((with_reducible refine gate_callee (f := 29) rfl ?_); refine goesL_ (some 6) rfl rfl Tryd.func29 (by kernel_rfl) rfl #[.int .i64 a0, .int .i64 (-648000), .int .i64 1296000] rfl (by (try simp only [List.map_toArray, List.map_cons, List.map_nil]); first | done | rfl | (simp only [List.length_drop, List.length_take]; rfl)) ?_; (with_reducible refine (impl_in.calls a0 (-648000) 1296000 false _ A2.out).mono ?_); rintro e w' ⟨rfl, ⟨nd, rfl⟩⟩; refine ⟨_, rfl, ?_⟩))
    go_ret2
    exact ⟨by first | rfl | (simp [errW_none, errW_some] <;> rfl) | (simp [*, errW_none, errW_some] <;> rfl), by repeat (first | (with_reducible first | exact HB.out | apply below_alloc | apply pw_below_drewN | apply below_drew1) | exact HB.out)⟩

end Go.Proofs.YtjheehbejehlaaaDoor.PFnExactReadAngle
