/- Proved: for every code the law FnFractions returns true. Conditions: none. -/
import Derived.Test.YtcnaocjhfgnphaaQFnFractionsx3
namespace Go.Proofs.Ytcnaocjhfgnphaa.Pure
open Go.RowKit Go.Proofs.Ytcnaocjhfgnphaa.PFnFractions Go.Proofs.YtcnaocjhfgnphaaW.PrintWords Go.Proofs.YtcnaocjhfgnphaaW.PrintLast Go.Proofs.YtcnaocjhfgnphaaW.PrintMore
set_option linter.unusedVariables false
set_option linter.unusedSimpArgs false

theorem wid (n : Int) (h0 : -9223372036854775808 ≤ n) (h1 : n ≤ 9223372036854775807) : wrap64 n = n := by unfold wrap64; omega

theorem tmodP (a b : Int) (h : 0 ≤ a) : a.tmod b = a % b := Int.tmod_eq_emod_of_nonneg h

theorem tdivP (a b : Int) (h : 0 ≤ a) : a.tdiv b = a / b := Int.tdiv_eq_ediv_of_nonneg h

theorem ediv_bounds (a b : Int) (hb : 0 < b) : b * (a / b) + a % b = a ∧ 0 ≤ a % b ∧ a % b < b := ⟨Int.mul_ediv_add_emod a b, Int.emod_nonneg _ (by omega), Int.emod_lt_of_pos _ hb⟩

/-- Go's truncated quotient and remainder by a positive number, in Lean's floor form. -/
theorem tdiv_pos_spec (a b : Int) (hb : 0 < b) : a.tmod b = (if 0 ≤ a ∨ a % b = 0 then a % b else a % b - b) ∧ a.tdiv b = (if 0 ≤ a ∨ a % b = 0 then a / b else a / b + 1) := by
  have h1 : a.tdiv b = (if 0 ≤ a ∨ a % b = 0 then a / b else a / b + 1) := by
    rw [Int.tdiv_eq_ediv]
    have e : b.sign = 1 := Int.sign_eq_one_of_pos hb
    rw [e]
    have : (b ∣ a) ↔ a % b = 0 := Int.dvd_iff_emod_eq_zero
    by_cases h : 0 ≤ a ∨ a % b = 0
    · rw [if_pos h, if_pos (by rw [this]; exact h)]; omega
    · rw [if_neg h, if_neg (by rw [this]; exact h)]
  refine ⟨?_, h1⟩
  have h2 := Int.mul_tdiv_add_tmod a b
  have h3 := Int.mul_ediv_add_emod a b
  rw [h1] at h2
  by_cases h : 0 ≤ a ∨ a % b = 0
  · rw [if_pos h] at h2 ⊢; omega
  · rw [if_neg h] at h2 ⊢; rw [Int.mul_add] at h2; omega

theorem ediv_range (a b : Int) (hb : 0 < b) (A : Int) (h0 : -A ≤ a) (h1 : a ≤ A) (hA : 0 ≤ A) : -A ≤ a / b ∧ a / b ≤ A := by
  constructor
  · rw [Int.le_ediv_iff_mul_le hb]
    have : -A * b ≤ -A * 1 := by
      have : A * 1 ≤ A * b := Int.mul_le_mul_of_nonneg_left (by omega) hA
      rw [Int.neg_mul, Int.neg_mul]; omega
    omega
  · have : a / b ≤ A / b := Int.ediv_le_ediv hb h1
    have h2 : A / b ≤ A := Int.ediv_le_self _ hA
    omega

theorem impl_in_eq (n lo hi : Int) : impl_in.f n lo hi = some (decide (lo ≤ n ∧ n ≤ hi)) := by
  unfold impl_in.f; by_cases h : n ≥ lo
  · rw [if_pos h]; simp [show lo ≤ n from h]
  · rw [if_neg h]; simp [show ¬ lo ≤ n from h]

theorem spec_in_eq (n lo hi : Int) : spec_l01In.f n lo hi = some (decide (lo ≤ n ∧ n ≤ hi)) := by
  unfold spec_l01In.f; by_cases h : n ≥ lo
  · rw [if_pos h]; simp [show lo ≤ n from h]
  · rw [if_neg h]; simp [show ¬ lo ≤ n from h]

theorem impl_isValue_eq (n : Int) : impl_isValue.f n = some (decide (-1000000000000 ≤ n ∧ n ≤ 1000000000000)) := by
  unfold impl_isValue.f; rw [impl_in_eq]; rfl

theorem spec_is_eq (n : Int) : spec_l01Is.f n = some (decide (-1000000000000 ≤ n ∧ n ≤ 1000000000000)) := by
  unfold spec_l01Is.f; rw [spec_in_eq]; rfl

theorem impl_floor_pos (a b : Int) (hb : 0 < b) (h0 : -9223372036854775807 ≤ a) (h1 : a ≤ 9223372036854775807) : impl_floor.f a b = some (a / b) := by
  have hr := ediv_range a b hb 9223372036854775807 h0 h1 (by omega)
  obtain ⟨e1, e2⟩ := tdiv_pos_spec a b hb
  have hm := Int.emod_nonneg a (show b ≠ 0 by omega)
  have hm2 := Int.emod_lt_of_pos a hb
  unfold impl_floor.f
  rw [if_neg (by omega), e1, e2]
  by_cases h : 0 ≤ a ∨ a % b = 0
  · rw [if_pos h, if_pos h, wid _ (by omega) (by omega)]
    by_cases hz : a % b = 0
    · rw [if_pos hz]
    · rw [if_neg hz, if_neg]
      have : ¬ (a % b < 0) := by omega
      have : ¬ (b < 0) := by omega
      simp [*]
  · rw [if_neg h, if_neg h, if_neg (by omega), if_pos]
    · have : a / b + 1 ≤ 0 := by
        have := Int.ediv_neg_of_neg_of_pos (show a < 0 by omega) hb
        omega
      rw [wid (a / b + 1) (by omega) (by omega), wid _ (by omega) (by omega)]; congr 1; omega
    · have : (a % b - b < 0) := by omega
      have : ¬ (b < 0) := by omega
      simp [*]

theorem impl_floor_neg (a b : Int) (hb : b < 0) (h0 : -9223372036854775807 ≤ a) (h1 : a ≤ 9223372036854775807) : impl_floor.f a b = some ((-a) / (-b)) := by
  have hr := ediv_range (-a) (-b) (by omega) 9223372036854775807 (by omega) (by omega) (by omega)
  obtain ⟨e1, e2⟩ := tdiv_pos_spec (-a) (-b) (by omega)
  have k1 : a.tmod b = - (-a).tmod (-b) := by rw [Int.neg_tmod, Int.tmod_neg]; omega
  have k2 : a.tdiv b = (-a).tdiv (-b) := by rw [Int.neg_tdiv, Int.tdiv_neg]; omega
  have hm := Int.emod_nonneg (-a) (show -b ≠ 0 by omega)
  have hm2 := Int.emod_lt_of_pos (-a) (show 0 < -b by omega)
  unfold impl_floor.f
  rw [if_neg (by omega), k1, k2, e1, e2]
  by_cases h : 0 ≤ -a ∨ -a % -b = 0
  · rw [if_pos h, if_pos h, wid _ (by omega) (by omega)]
    by_cases hz : -a % -b = 0
    · rw [if_pos (by omega)]
    · rw [if_neg (by omega), if_neg]
      rw [decide_eq_true (show -(-a % -b) < 0 by omega), decide_eq_true hb]; decide
  · rw [if_neg h, if_neg h, if_neg (by omega), if_pos]
    · have : -a / -b + 1 ≤ 0 := by
        have := Int.ediv_neg_of_neg_of_pos (show -a < 0 by omega) (show 0 < -b by omega)
        omega
      rw [wid (-a / -b + 1) (by omega) (by omega), wid _ (by omega) (by omega)]; congr 1; omega
    · rw [decide_eq_false (show ¬ (-(-a % -b - -b) < 0) by omega), decide_eq_true hb]; decide

theorem spec_floor_pos (a b : Int) (hb : 0 < b) (h0 : -9223372036854775807 ≤ a) (h1 : a ≤ 9223372036854775807) : spec_l01Floor.f a b = some (a / b) := by
  have hr := ediv_range a b hb 9223372036854775807 h0 h1 (by omega)
  obtain ⟨e1, e2⟩ := tdiv_pos_spec a b hb
  have hm := Int.emod_nonneg a (show b ≠ 0 by omega)
  have hm2 := Int.emod_lt_of_pos a hb
  unfold spec_l01Floor.f
  rw [if_neg (by omega), if_neg (by omega), e1, e2]
  by_cases h : 0 ≤ a ∨ a % b = 0
  · rw [if_pos h, if_pos h, if_neg (by omega), wid _ (by omega) (by omega)]
  · rw [if_neg h, if_neg h, if_pos (by omega)]
    have : a / b + 1 ≤ 0 := by
      have := Int.ediv_neg_of_neg_of_pos (show a < 0 by omega) hb
      omega
    rw [wid (a / b + 1) (by omega) (by omega), wid _ (by omega) (by omega)]; congr 1; omega

theorem spec_floor_neg (a b : Int) (hb : b < 0) (hb1 : -9223372036854775807 ≤ b) (h0 : -9223372036854775807 ≤ a) (h1 : a ≤ 9223372036854775807) : spec_l01Floor.f a b = some ((-a) / (-b)) := by
  have h := spec_floor_pos (-a) (-b) (by omega) (by omega) (by omega)
  unfold spec_l01Floor.f at h ⊢
  rw [if_neg (by omega), if_neg (by omega)] at h
  rw [if_pos hb, wid (-a) (by omega) (by omega), wid (-b) (by omega) (by omega), if_neg (by omega)]; exact h

/-- The floor of a fraction, whatever the sign of its denominator. -/
def flr (a b : Int) : Int := if 0 < b then a / b else (-a) / (-b)

theorem impl_floor_eq (a b : Int) (hb : b ≠ 0) (h0 : -9223372036854775807 ≤ a) (h1 : a ≤ 9223372036854775807) : impl_floor.f a b = some (flr a b) := by
  unfold flr; by_cases h : 0 < b
  · rw [if_pos h, impl_floor_pos a b h h0 h1]
  · rw [if_neg h, impl_floor_neg a b (by omega) h0 h1]

theorem spec_floor_eq (a b : Int) (hb : b ≠ 0) (hb1 : -9223372036854775807 ≤ b) (h0 : -9223372036854775807 ≤ a) (h1 : a ≤ 9223372036854775807) : spec_l01Floor.f a b = some (flr a b) := by
  unfold flr; by_cases h : 0 < b
  · rw [if_pos h, spec_floor_pos a b h h0 h1]
  · rw [if_neg h, spec_floor_neg a b (by omega) hb1 h0 h1]

theorem flr_range (a b : Int) (hb : b ≠ 0) (A : Int) (h0 : -A ≤ a) (h1 : a ≤ A) (hA : 0 ≤ A) : -A ≤ flr a b ∧ flr a b ≤ A := by
  unfold flr; by_cases h : 0 < b
  · rw [if_pos h]; exact ediv_range a b h A h0 h1 hA
  · rw [if_neg h]; exact ediv_range (-a) (-b) (by omega) A (by omega) (by omega) hA

theorem impl_ceil_eq (a b : Int) (hb : b ≠ 0) (h0 : -9223372036854775807 ≤ a) (h1 : a ≤ 9223372036854775807) : impl_ceil.f a b = some (-(flr (-a) b)) := by
  have := flr_range (-a) b hb 9223372036854775807 (by omega) (by omega) (by omega)
  unfold impl_ceil.f; rw [wid (-a) (by omega) (by omega), impl_floor_eq (-a) b hb (by omega) (by omega)]; simp only [Option.bind_some]; rw [wid _ (by omega) (by omega)]

theorem spec_ceil_eq (a b : Int) (hb : b ≠ 0) (hb1 : -9223372036854775807 ≤ b) (h0 : -9223372036854775807 ≤ a) (h1 : a ≤ 9223372036854775807) : spec_l01Ceil.f a b = some (-(flr (-a) b)) := by
  have := flr_range (-a) b hb 9223372036854775807 (by omega) (by omega) (by omega)
  unfold spec_l01Ceil.f; rw [wid (-a) (by omega) (by omega), spec_floor_eq (-a) b hb hb1 (by omega) (by omega)]; simp only [Option.bind_some]; rw [wid _ (by omega) (by omega)]

/-- The nearest integer to a fraction of a positive denominator; a half goes up. -/
def nrs (a b : Int) : Int := (2 * a + b) / (2 * b)

theorem nrs_eq (a b : Int) (hb : 0 < b) : nrs a b = if b ≤ 2 * (a % b) then a / b + 1 else a / b := by
  obtain ⟨e, m0, m1⟩ := ediv_bounds a b hb
  unfold nrs
  have h : 2 * a + b = (2 * (a % b) + b) + (2 * b) * (a / b) := by rw [Int.mul_assoc]; omega
  rw [h, Int.add_mul_ediv_left _ _ (by omega)]
  by_cases k : b ≤ 2 * (a % b)
  · rw [if_pos k]
    have : (2 * (a % b) + b) / (2 * b) = 1 := by
      rw [show 2 * (a % b) + b = (2 * (a % b) - b) + 2 * b * 1 by omega, Int.add_mul_ediv_left _ _ (by omega), Int.ediv_eq_zero_of_lt (by omega) (by omega)]; rfl
    omega
  · rw [if_neg k, Int.ediv_eq_zero_of_lt (by omega) (by omega)]; omega

theorem impl_nearest_pos (a b : Int) (hb : 0 < b) (hb1 : b ≤ 1000000000000000000) (h0 : -4000000000000000000 ≤ a) (h1 : a ≤ 4000000000000000000) : impl_nearest.f a b = some (nrs a b) := by
  obtain ⟨e, m0, m1⟩ := ediv_bounds a b hb
  have hr := ediv_range a b hb 4000000000000000000 h0 h1 (by omega)
  have e2 : a / b * b = a - a % b := by rw [Int.mul_comm]; omega
  rw [nrs_eq a b hb]
  unfold impl_nearest.f
  rw [if_neg (by omega), impl_floor_pos a b hb (by omega) (by omega)]
  simp only [Option.bind_some]
  rw [e2, wid (a - a % b) (by omega) (by omega), show a - (a - a % b) = a % b by omega, wid (a % b) (by omega) (by omega), wid (b - a % b) (by omega) (by omega), wid (a / b + 1) (by omega) (by omega)]
  by_cases k : b ≤ 2 * (a % b)
  · rw [if_pos k, if_pos (by omega)]
  · rw [if_neg k, if_neg (by omega)]

theorem impl_nearest_neg (a b : Int) (hb : b < 0) (hb1 : -1000000000000000000 ≤ b) (h0 : -4000000000000000000 ≤ a) (h1 : a ≤ 4000000000000000000) : impl_nearest.f a b = some (nrs (-a) (-b)) := by
  have h := impl_nearest_pos (-a) (-b) (by omega) (by omega) (by omega) (by omega)
  unfold impl_nearest.f at h ⊢
  rw [if_neg (by omega)] at h
  rw [if_pos hb, wid (-a) (by omega) (by omega), wid (-b) (by omega) (by omega)]; exact h

theorem spec_nearest_pos (a b : Int) (hb : 0 < b) (hb1 : b ≤ 1000000000000000000) (h0 : -4000000000000000000 ≤ a) (h1 : a ≤ 4000000000000000000) : spec_l01Nearest.f a b = some (nrs a b) := by
  unfold spec_l01Nearest.f nrs
  rw [wid (2 * a) (by omega) (by omega), wid (2 * b) (by omega) (by omega), wid (2 * a + b) (by omega) (by omega), spec_floor_pos _ _ (by omega) (by omega) (by omega)]; rfl

/-- The code of a fraction. -/
def frc (a b : Int) : Int := if (-1000000000000 ≤ a ∧ a ≤ 1000000000000) ∧ (-1000000000000 ≤ b ∧ b ≤ 1000000000000) then (if b = 0 then 5 else 0) else 2

theorem spec_code_eq (k : Nat) (a b : Int) : spec_l01Code.f (k + 1) a b = some (frc a b) := by
  unfold spec_l01Code.f frc
  rw [spec_is_eq, spec_is_eq]
  simp only [Option.bind_some, spec_l01Code.j0]
  by_cases h1 : -1000000000000 ≤ a ∧ a ≤ 1000000000000
  · by_cases h2 : -1000000000000 ≤ b ∧ b ≤ 1000000000000
    · have c := And.intro h1 h2
      rw [decide_eq_true h1, decide_eq_true h2, if_pos c]
      by_cases h3 : b = 0 <;> simp [h3]
    · have c : ¬ ((-1000000000000 ≤ a ∧ a ≤ 1000000000000) ∧ (-1000000000000 ≤ b ∧ b ≤ 1000000000000)) := fun h => h2 h.2
      rw [decide_eq_true h1, decide_eq_false h2, if_neg c]; rfl
  · have c : ¬ ((-1000000000000 ≤ a ∧ a ≤ 1000000000000) ∧ (-1000000000000 ≤ b ∧ b ≤ 1000000000000)) := fun h => h1 h.1
    rw [decide_eq_false h1, if_neg c]; rfl

theorem impl_quotient_eq (k : Nat) (a b : Int) : impl_quotient.f (k + 1) a b = some (frc a b) := by
  unfold impl_quotient.f frc
  rw [impl_isValue_eq, impl_isValue_eq]
  simp only [Option.bind_some, impl_quotient.j0]
  by_cases h1 : -1000000000000 ≤ a ∧ a ≤ 1000000000000
  · by_cases h2 : -1000000000000 ≤ b ∧ b ≤ 1000000000000
    · have c := And.intro h1 h2
      rw [decide_eq_true h1, decide_eq_true h2, if_pos c]
      by_cases h3 : b = 0 <;> simp [h3]
    · have c : ¬ ((-1000000000000 ≤ a ∧ a ≤ 1000000000000) ∧ (-1000000000000 ≤ b ∧ b ≤ 1000000000000)) := fun h => h2 h.2
      rw [decide_eq_true h1, decide_eq_false h2, if_neg c]; rfl
  · have c : ¬ ((-1000000000000 ≤ a ∧ a ≤ 1000000000000) ∧ (-1000000000000 ≤ b ∧ b ≤ 1000000000000)) := fun h => h1 h.1
    rw [decide_eq_false h1, if_neg c]; rfl

theorem frc_zero {a b : Int} (h : frc a b = 0) : (-1000000000000 ≤ a ∧ a ≤ 1000000000000) ∧ (-1000000000000 ≤ b ∧ b ≤ 1000000000000) ∧ b ≠ 0 := by
  unfold frc at h
  by_cases c : (-1000000000000 ≤ a ∧ a ≤ 1000000000000) ∧ (-1000000000000 ≤ b ∧ b ≤ 1000000000000)
  · rw [if_pos c] at h
    refine ⟨c.1, c.2, fun e => ?_⟩
    rw [if_pos e] at h; omega
  · rw [if_neg c] at h; omega

theorem spec_FloorOf_eq (k : Nat) (a b : Int) : spec_FloorOf.f (k + 1) a b = some (if frc a b = 0 then (flr a b, 0) else (0, frc a b)) := by
  unfold spec_FloorOf.f; rw [spec_code_eq]; simp only [Option.bind_some]
  by_cases h : frc a b = 0
  · obtain ⟨h1, h2, h3⟩ := frc_zero h
    rw [if_pos h, if_pos h, spec_floor_eq a b h3 (by omega) (by omega) (by omega)]; rfl
  · rw [if_neg h, if_neg h]

theorem impl_FloorOf_eq (k : Nat) (a b : Int) : impl_FloorOf.f (k + 1) a b = some (if frc a b = 0 then (flr a b, 0) else (0, frc a b)) := by
  unfold impl_FloorOf.f; rw [impl_quotient_eq]; simp only [Option.bind_some]
  by_cases h : frc a b = 0
  · obtain ⟨h1, h2, h3⟩ := frc_zero h
    rw [if_pos h, if_pos h, impl_floor_eq a b h3 (by omega) (by omega)]; rfl
  · rw [if_neg h, if_neg h]

theorem spec_CeilOf_eq (k : Nat) (a b : Int) : spec_CeilOf.f (k + 1) a b = some (if frc a b = 0 then (-(flr (-a) b), 0) else (0, frc a b)) := by
  unfold spec_CeilOf.f; rw [spec_code_eq]; simp only [Option.bind_some]
  by_cases h : frc a b = 0
  · obtain ⟨h1, h2, h3⟩ := frc_zero h
    rw [if_pos h, if_pos h, spec_ceil_eq a b h3 (by omega) (by omega) (by omega)]; rfl
  · rw [if_neg h, if_neg h]

theorem impl_CeilOf_eq (k : Nat) (a b : Int) : impl_CeilOf.f (k + 1) a b = some (if frc a b = 0 then (-(flr (-a) b), 0) else (0, frc a b)) := by
  unfold impl_CeilOf.f; rw [impl_quotient_eq]; simp only [Option.bind_some]
  by_cases h : frc a b = 0
  · obtain ⟨h1, h2, h3⟩ := frc_zero h
    rw [if_pos h, if_pos h, impl_ceil_eq a b h3 (by omega) (by omega)]; rfl
  · rw [if_neg h, if_neg h]

def nro (a b : Int) : Int := if b < 0 then nrs (-a) (-b) else nrs a b

theorem spec_NearestOf_eq (k : Nat) (a b : Int) : spec_NearestOf.f (k + 1) a b = some (if frc a b = 0 then (nro a b, 0) else (0, frc a b)) := by
  unfold spec_NearestOf.f; rw [spec_code_eq]; simp only [Option.bind_some]
  by_cases h : frc a b = 0
  · obtain ⟨h1, h2, h3⟩ := frc_zero h
    unfold nro
    rw [if_pos h, if_pos h]
    by_cases hb : b < 0
    · rw [if_pos hb, if_pos hb, wid (-a) (by omega) (by omega), wid (-b) (by omega) (by omega), spec_nearest_pos _ _ (by omega) (by omega) (by omega) (by omega)]; rfl
    · rw [if_neg hb, if_neg hb, spec_nearest_pos _ _ (by omega) (by omega) (by omega) (by omega)]; rfl
  · rw [if_neg h, if_neg h]

theorem impl_NearestOf_eq (k : Nat) (a b : Int) : impl_NearestOf.f (k + 1) a b = some (if frc a b = 0 then (nro a b, 0) else (0, frc a b)) := by
  unfold impl_NearestOf.f; rw [impl_quotient_eq]; simp only [Option.bind_some]
  by_cases h : frc a b = 0
  · obtain ⟨h1, h2, h3⟩ := frc_zero h
    unfold nro
    rw [if_pos h, if_pos h]
    by_cases hb : b < 0
    · rw [if_pos hb, impl_nearest_neg _ _ (by omega) (by omega) (by omega) (by omega)]; rfl
    · rw [if_neg hb, impl_nearest_pos _ _ (by omega) (by omega) (by omega) (by omega)]; rfl
  · rw [if_neg h, if_neg h]

/-- A source of draws over the code l: how many of its bytes are used, and its seed. -/
def src (l : List Int) (t s : Int) : Prop := (0 ≤ t ∧ t ≤ (l.length : Int)) ∧ (l.length ≤ 4096 ∧ ∀ x ∈ l, 0 ≤ x ∧ x ≤ 255) ∧ (0 ≤ s ∧ s < 2147483647)

theorem rd_byte (l : List Int) (h : ∀ x ∈ l, 0 ≤ x ∧ x ≤ 255) (i : Int) : 0 ≤ rd l i ∧ rd l i ≤ 255 := by
  unfold rd
  by_cases c : i.toNat < l.length
  · rw [List.getD_eq_getElem?_getD, List.getElem?_eq_getElem c]; exact h _ (List.getElem_mem c)
  · rw [List.getD_eq_getElem?_getD, List.getElem?_eq_none (by omega)]; simp

theorem from_loop (l : List Int) (hl : l.length ≤ 4096) (hb : ∀ x ∈ l, 0 ≤ x ∧ x ≤ 255) : ∀ (d : Nat) (i s : Int), 0 ≤ i → 64 - i ≤ d → 0 ≤ s → s < 2147483647 →
    ∃ s', (0 ≤ s' ∧ s' < 2147483647) ∧ ∀ k, d < k → spec_l01From.l0 k l i l 0 s = some (l, 0, s') := by
  intro d
  induction d with
  | zero =>
    intro i s h0 h1 h2 h3
    refine ⟨s, ⟨h2, h3⟩, fun k hk => ?_⟩
    obtain ⟨k, rfl⟩ : ∃ z, k = z + 1 := ⟨k - 1, by omega⟩
    simp only [spec_l01From.l0]
    by_cases c : i < (l.length : Int)
    · rw [if_pos c, if_neg (by omega)]
    · rw [if_neg c]
  | succ d ih =>
    intro i s h0 h1 h2 h3
    by_cases c : i < (l.length : Int)
    · by_cases c2 : i < 64
      · have hr := rd_byte l hb i
        have e1 : wrap64 (s * 71) = s * 71 := wid _ (by omega) (by omega)
        have e2 : wrap64 (rd l i) = rd l i := wid _ (by omega) (by omega)
        have e3 : wrap64 (s * 71 + rd l i) = s * 71 + rd l i := wid _ (by omega) (by omega)
        have e4 : Int.tmod (s * 71 + rd l i) 2147483647 = (s * 71 + rd l i) % 2147483647 := tmodP _ _ (by omega)
        obtain ⟨s', hs, hk⟩ := ih (i + 1) ((s * 71 + rd l i) % 2147483647) (by omega) (by omega) (by omega) (by omega)
        refine ⟨s', hs, fun k hk' => ?_⟩
        obtain ⟨k, rfl⟩ : ∃ z, k = z + 1 := ⟨k - 1, by omega⟩
        simp only [spec_l01From.l0]
        rw [if_pos c, if_pos c2, if_pos h0, e1, e2, e3, e4, wid (i + 1) (by omega) (by omega)]
        exact hk k (by omega)
      · refine ⟨s, ⟨h2, h3⟩, fun k hk => ?_⟩
        obtain ⟨k, rfl⟩ : ∃ z, k = z + 1 := ⟨k - 1, by omega⟩
        simp only [spec_l01From.l0]; rw [if_pos c, if_neg c2]
    · refine ⟨s, ⟨h2, h3⟩, fun k hk => ?_⟩
      obtain ⟨k, rfl⟩ : ∃ z, k = z + 1 := ⟨k - 1, by omega⟩
      simp only [spec_l01From.l0]; rw [if_neg c]

theorem from_eq (l : List Int) (hl : l.length ≤ 4096) (hb : ∀ x ∈ l, 0 ≤ x ∧ x ≤ 255) : ∃ s, src l 0 s ∧ ∀ k, 64 < k → spec_l01From.f k l = some (l, 0, s) := by
  obtain ⟨s, hs, hk⟩ := from_loop l hl hb 64 0 21013 (by omega) (by omega) (by omega) (by omega)
  exact ⟨s, ⟨⟨by omega, by omega⟩, ⟨hl, hb⟩, hs⟩, hk⟩

theorem next_eq {l : List Int} {t s : Int} (h : src l t s) (n : Int) (hn : n ≤ 1000000000000000000) : ∃ v t' s', spec_l01Next.f l t s n = some (v, t', s') ∧ src l t' s' ∧ 0 ≤ v ∧ (v < n ∨ v = 0 ∧ n ≤ 1) := by
  obtain ⟨⟨t0, t1⟩, ⟨l0, l1⟩, s0, s1⟩ := h
  unfold spec_l01Next.f
  by_cases c : n ≤ 1
  · rw [if_pos c]; exact ⟨0, t, s, rfl, ⟨⟨t0, t1⟩, ⟨l0, l1⟩, s0, s1⟩, by omega, .inr ⟨rfl, c⟩⟩
  · have e1 : wrap64 (s * 48271) = s * 48271 := wid _ (by omega) (by omega)
    have e2 : wrap64 (s * 48271 + 29) = s * 48271 + 29 := wid _ (by omega) (by omega)
    have e3 : Int.tmod (s * 48271 + 29) 2147483647 = (s * 48271 + 29) % 2147483647 := tmodP _ _ (by omega)
    rw [if_neg c, e1, e2, e3]
    generalize hq : (s * 48271 + 29) % 2147483647 = q
    have q0 : 0 ≤ q ∧ q < 2147483647 := by omega
    have e4 : wrap64 (Int.tdiv q 31) = q / 31 := by rw [tdivP _ _ q0.1]; exact wid _ (by omega) (by omega)
    have n0 : ¬ n = 0 := by omega
    rw [e4]
    have hm : ∀ x : Int, 0 ≤ x → 0 ≤ Int.tmod x n ∧ Int.tmod x n < n := by
      intro x hx
      rw [tmodP _ _ hx]; exact ⟨Int.emod_nonneg _ (by omega), Int.emod_lt_of_pos _ (by omega)⟩
    by_cases c1 : t < (l.length : Int)
    · have hr := rd_byte l l1 t
      have e5 : wrap64 (t + 1) = t + 1 := wid _ (by omega) (by omega)
      have e6 : wrap64 (rd l t) = rd l t := wid _ (by omega) (by omega)
      have e7 : wrap64 (q / 31 + rd l t) = q / 31 + rd l t := wid _ (by omega) (by omega)
      have e8 : wrap64 (t + 1 - 1) = t := by rw [show t + 1 - 1 = t by omega]; exact wid _ (by omega) (by omega)
      rw [if_pos c1, if_pos t0, e5, e8, e6, e7, if_neg n0, if_neg n0, if_pos t0, if_pos c1]
      have hs' : src l (t + 1) q := ⟨⟨by omega, by omega⟩, ⟨l0, l1⟩, q0.1, q0.2⟩
      have a1 := hm (rd l t) hr.1
      have a2 := hm (q / 31 + rd l t) (by omega)
      by_cases c2 : n ≤ 256
      · rw [if_pos c2]
        by_cases c3 : Int.tmod (t + 1) 2 = 0
        · rw [if_pos c3]; exact ⟨_, _, _, rfl, hs', a1.1, .inl a1.2⟩
        · rw [if_neg c3]; exact ⟨_, _, _, rfl, hs', a2.1, .inl a2.2⟩
      · rw [if_neg c2]; exact ⟨_, _, _, rfl, hs', a2.1, .inl a2.2⟩
    · have a3 := hm (q / 31) (by omega)
      rw [if_neg c1, if_neg n0]; exact ⟨_, _, _, rfl, ⟨⟨t0, t1⟩, ⟨l0, l1⟩, q0.1, q0.2⟩, a3.1, .inl a3.2⟩

theorem pick_eq {l : List Int} {t s : Int} (h : src l t s) (xs : List Int) (h1 : 0 < xs.length) (h2 : xs.length ≤ 100) : ∃ v t' s', spec_l01Pick.f l t s xs = some (v, t', s') ∧ src l t' s' ∧ v ∈ xs := by
  obtain ⟨v, t', s', e, hs, v0, v1⟩ := next_eq h (xs.length : Int) (by omega)
  unfold spec_l01Pick.f
  rw [e]; simp only [Option.bind_some]
  have hv : v < (xs.length : Int) := by omega
  rw [if_pos v0, if_pos hv]
  refine ⟨_, _, _, rfl, hs, ?_⟩
  unfold rd
  have hlt : v.toNat < xs.length := by omega
  rw [List.getD_eq_getElem?_getD, List.getElem?_eq_getElem hlt]; exact List.getElem_mem hlt

theorem drawValue_eq {l : List Int} {t s : Int} (h : src l t s) : ∃ v t' s', spec_l01DrawValue.f l t s = some (v, t', s') ∧ src l t' s' ∧ -2000000000000 ≤ v ∧ v ≤ 2000000000000 := by
  unfold spec_l01DrawValue.f
  obtain ⟨v1, t1, s1, e1, h1, b1, _⟩ := next_eq h 10 (by omega)
  rw [e1]; simp only [Option.bind_some]
  by_cases c : v1 = 0
  · obtain ⟨v2, t2, s2, e2, h2, m2⟩ := pick_eq h1 [0, 1000000000000, 1000000000001, (-1000000000000), (-1000000000001), 1] (by simp) (by simp)
    rw [if_pos c, e2]; simp only [Option.bind_some]
    refine ⟨v2, t2, s2, rfl, h2, ?_⟩
    simp only [List.mem_cons, List.not_mem_nil, or_false] at m2; omega
  · obtain ⟨v2, t2, s2, e2, h2, b2, c2⟩ := next_eq h1 41 (by omega)
    obtain ⟨v3, t3, s3, e3, h3, b3, c3⟩ := next_eq h2 2001 (by omega)
    obtain ⟨v4, t4, s4, e4, h4, b4, c4⟩ := next_eq h3 2000000001 (by omega)
    rw [if_neg c, e2]; simp only [Option.bind_some]
    rw [e3]; simp only [Option.bind_some]
    rw [e4]; simp only [Option.bind_some]
    rw [wid (v2 - 20) (by omega) (by omega), wid (v3 - 1000) (by omega) (by omega), wid (v4 - 1000000000) (by omega) (by omega)]
    obtain ⟨v5, t5, s5, e5, h5, m5⟩ := pick_eq h4 [v2 - 20, v3 - 1000, v4 - 1000000000] (by simp) (by simp)
    rw [e5]; simp only [Option.bind_some]
    refine ⟨v5, t5, s5, rfl, h5, ?_⟩
    simp only [List.mem_cons, List.not_mem_nil, or_false] at m5; omega

/-- What the laws over a code take of it. -/
theorem code_bytes {l : List Int} (h : ∀ x ∈ l, (Lit.int .u8 x).wf = true) : ∀ x ∈ l, 0 ≤ x ∧ x ≤ 255 := by
  intro x hx
  have := h x hx
  simp [Lit.wf, IntKind.min, IntKind.max, IntKind.signed, IntKind.bits] at this
  omega

theorem big_eq (l : List Int) : laws_big.f l = some (decide ((l.length : Int) > 4096)) := rfl

theorem drawFloor_eq (l : List Int) (hl : l.length ≤ 4096) (hb : ∀ x ∈ l, 0 ≤ x ∧ x ≤ 255) : ∃ a b, ∀ k, 64 < k → spec_DrawFloorOf.f k l = some (a, b) := by
  obtain ⟨s, hs, hf⟩ := from_eq l hl hb
  obtain ⟨v1, t1, s1, e1, h1, b1⟩ := drawValue_eq hs
  obtain ⟨v2, t2, s2, e2, h2, b2⟩ := drawValue_eq h1
  obtain ⟨v3, t3, s3, e3, h3, b3, c3⟩ := next_eq h2 21 (by omega)
  obtain ⟨v4, t4, s4, e4, h4, m4⟩ := pick_eq h3 [v2, wrap64 (v3 - 10), 2] (by simp) (by simp)
  refine ⟨v1, v4, fun k hk => ?_⟩
  unfold spec_DrawFloorOf.f
  rw [hf k hk]; simp only [Option.bind_some]
  rw [e1]; simp only [Option.bind_some]
  rw [e2]; simp only [Option.bind_some]
  rw [e3]; simp only [Option.bind_some]
  rw [e4]; rfl

theorem frac_core (A B : Int) (hB : 0 < B) (hB1 : B ≤ 1000000000000) (h0 : -1000000000000 ≤ A) (h1 : A ≤ 1000000000000) :
    (A / B ≤ -((-A) / B) ∧ -((-A) / B) - A / B ≤ 1) ∧ (A / B = -((-A) / B) ↔ A % B = 0) ∧ (nrs A B = A / B ∨ nrs A B = -((-A) / B)) ∧
    (-2000000000000 ≤ A / B * B ∧ A / B * B ≤ A) ∧ (A ≤ -((-A) / B) * B ∧ -((-A) / B) * B ≤ 2000000000000) ∧ (-2000000000000 ≤ nrs A B * B ∧ nrs A B * B ≤ 2000000000000) ∧ 2 * (nrs A B * B - A) ≤ B ∧ 2 * (A - nrs A B * B) < B := by
  obtain ⟨e, m0, m1⟩ := ediv_bounds A B hB
  have hx : A / B * B = A - A % B := by rw [Int.mul_comm]; omega
  have hy : -((-A) / B) = if A % B = 0 then A / B else A / B + 1 := by
    by_cases c : A % B = 0
    · rw [if_pos c]
      have : -A = B * (-(A / B)) := by rw [Int.mul_neg]; omega
      rw [this, Int.mul_ediv_cancel_left _ (by omega)]; omega
    · rw [if_neg c]
      have : -A = (B - A % B) + B * (-(A / B) - 1) := by rw [Int.mul_sub, Int.mul_neg]; omega
      rw [this, Int.add_mul_ediv_left _ _ (by omega), Int.ediv_eq_zero_of_lt (by omega) (by omega)]; omega
  have hn := nrs_eq A B hB
  have hx1 : (A / B + 1) * B = A - A % B + B := by rw [Int.add_mul]; omega
  rw [hy]
  by_cases c : A % B = 0
  · rw [if_pos c]
    rw [if_neg (by omega)] at hn
    rw [hn]; omega
  · rw [if_neg c]
    by_cases d : B ≤ 2 * (A % B)
    · rw [if_pos d] at hn; rw [hn]; omega
    · rw [if_neg d] at hn; rw [hn]; omega
theorem frac_j1 (k : Nat) (a b : Int) (h : frc a b = 0) : laws_FnFractions.j1 (k + 1) a b (flr a b) (-(flr (-a) b)) (nro a b) false = some true := by
  obtain ⟨ha, hb, h0⟩ := frc_zero h
  simp only [laws_FnFractions.j1]
  rw [if_neg (by decide)]
  by_cases c : b < 0
  · obtain ⟨f1, f2, f3, f4, f5, f6, f7, f8⟩ := frac_core (-a) (-b) (by omega) (by omega) (by omega) (by omega)
    rw [Int.neg_neg] at f1 f2 f3 f5
    have e1 : flr a b = -a / -b := by unfold flr; rw [if_neg (by omega)]
    have e2 : flr (-a) b = a / -b := by unfold flr; rw [if_neg (by omega), Int.neg_neg]
    have e3 : nro a b = nrs (-a) (-b) := by unfold nro; rw [if_pos c]
    rw [e1, e2, e3, if_pos c, wid (-a) (by omega) (by omega), wid (-b) (by omega) (by omega)]
    rw [wid (-a / -b * -b) (by omega) (by omega), wid (-(a / -b) * -b) (by omega) (by omega), wid (nrs (-a) (-b) * -b) (by omega) (by omega), wid (nrs (-a) (-b) * -b - -a) (by omega) (by omega), wid (-a - nrs (-a) (-b) * -b) (by omega) (by omega),
      wid (2 * (nrs (-a) (-b) * -b - -a)) (by omega) (by omega), wid (2 * (-a - nrs (-a) (-b) * -b)) (by omega) (by omega), if_pos f4.2, if_pos f5.1, if_pos f7, decide_eq_true f8]
  · obtain ⟨f1, f2, f3, f4, f5, f6, f7, f8⟩ := frac_core a b (by omega) (by omega) (by omega) (by omega)
    have e1 : flr a b = a / b := by unfold flr; rw [if_pos (by omega)]
    have e2 : flr (-a) b = -a / b := by unfold flr; rw [if_pos (by omega)]
    have e3 : nro a b = nrs a b := by unfold nro; rw [if_neg c]
    rw [e1, e2, e3, if_neg c]
    rw [wid (a / b * b) (by omega) (by omega), wid (-(-a / b) * b) (by omega) (by omega), wid (nrs a b * b) (by omega) (by omega), wid (nrs a b * b - a) (by omega) (by omega), wid (a - nrs a b * b) (by omega) (by omega),
      wid (2 * (nrs a b * b - a)) (by omega) (by omega), wid (2 * (a - nrs a b * b)) (by omega) (by omega), if_pos f4.2, if_pos f5.1, if_pos f7, decide_eq_true f8]
theorem frac_facts (a b : Int) (h : frc a b = 0) : -(flr (-a) b) - flr a b ≤ 1 ∧ flr a b ≤ -(flr (-a) b) ∧ (flr a b = -(flr (-a) b) ↔ Int.tmod a b = 0) ∧ (nro a b = flr a b ∨ nro a b = -(flr (-a) b)) := by
  obtain ⟨ha, hb, h0⟩ := frc_zero h
  by_cases c : b < 0
  · obtain ⟨f1, f2, f3, _⟩ := frac_core (-a) (-b) (by omega) (by omega) (by omega) (by omega)
    rw [Int.neg_neg] at f1 f2 f3
    have ht : Int.tmod a b = 0 ↔ -a % -b = 0 := by
      have e1 := (tdiv_pos_spec (-a) (-b) (by omega)).1
      have m0 := Int.emod_nonneg (-a) (show -b ≠ 0 by omega)
      have m1 := Int.emod_lt_of_pos (-a) (show 0 < -b by omega)
      have k1 : a.tmod b = - (-a).tmod (-b) := by rw [Int.neg_tmod, Int.tmod_neg]; omega
      rw [k1, e1]; split <;> omega
    have e1 : flr a b = -a / -b := by unfold flr; rw [if_neg (by omega)]
    have e2 : flr (-a) b = a / -b := by unfold flr; rw [if_neg (by omega), Int.neg_neg]
    have e3 : nro a b = nrs (-a) (-b) := by unfold nro; rw [if_pos c]
    rw [e1, e2, e3]
    exact ⟨f1.2, f1.1, f2.trans ht.symm, f3⟩
  · obtain ⟨f1, f2, f3, _⟩ := frac_core a b (by omega) (by omega) (by omega) (by omega)
    have ht : Int.tmod a b = 0 ↔ a % b = 0 := by
      have e1 := (tdiv_pos_spec a b (by omega)).1
      have m0 := Int.emod_nonneg a (show b ≠ 0 by omega)
      have m1 := Int.emod_lt_of_pos a (show 0 < b by omega)
      rw [e1]; split <;> omega
    have e1 : flr a b = a / b := by unfold flr; rw [if_pos (by omega)]
    have e2 : flr (-a) b = -a / b := by unfold flr; rw [if_pos (by omega)]
    have e3 : nro a b = nrs a b := by unfold nro; rw [if_neg c]
    rw [e1, e2, e3]
    exact ⟨f1.2, f1.1, f2.trans ht.symm, f3⟩
theorem FnFractions : laws_FnFractions.Pure := by
  intro l _ _ hw
  have hb := code_bytes hw
  by_cases hl : l.length ≤ 4096
  · obtain ⟨a, b, hab⟩ := drawFloor_eq l hl hb
    refine ⟨70, ?_⟩
    unfold laws_FnFractions.f
    rw [big_eq, decide_eq_false (by omega)]; simp only [Option.bind_some]
    rw [if_neg (by decide), hab _ (by omega)]; simp only [Option.bind_some]
    rw [impl_FloorOf_eq 69, spec_FloorOf_eq 69, impl_CeilOf_eq 69, spec_CeilOf_eq 69, impl_NearestOf_eq 69, spec_NearestOf_eq 69]
    simp only [Option.bind_some, if_true]
    by_cases h : frc a b = 0
    · rw [if_pos h, if_pos h, if_pos h]; simp only [if_true, bne_self_eq_false]
      obtain ⟨g1, g2, g3, g4⟩ := frac_facts a b h
      obtain ⟨ha, hb', h0⟩ := frc_zero h
      have r1 := flr_range a b h0 1000000000000 (by omega) (by omega) (by omega)
      have hj := frac_j1 68 a b h
      show laws_FnFractions.j0 (69 + 1) a b (flr a b) 0 (-(flr (-a) b)) (nro a b) false = some true
      simp only [laws_FnFractions.j0]
      rw [if_neg (by decide)]; simp only [if_true]
      rw [wid _ (by omega) (by omega), if_neg (by omega), if_neg h0, if_neg]
      · by_cases c : nro a b = flr a b
        · rw [if_pos c]; exact hj
        · rw [if_neg c]
          have : (nro a b != -(flr (-a) b)) = false := by rw [bne_eq_false_iff_eq]; omega
          rw [this]; exact hj
      · by_cases c : flr a b = -(flr (-a) b)
        · rw [beq_iff_eq.2 c, beq_iff_eq.2 (g3.1 c)]; decide
        · rw [beq_eq_false_iff_ne.2 c, beq_eq_false_iff_ne.2 (fun k => c (g3.2 k))]; decide
    · rw [if_neg h, if_neg h, if_neg h]; simp only [if_true, bne_self_eq_false]
      show laws_FnFractions.j0 (69 + 1) a b _ (frc a b) _ _ false = some true
      simp only [laws_FnFractions.j0]
      rw [if_neg (by decide), if_neg h]
  · refine ⟨1, ?_⟩
    unfold laws_FnFractions.f
    rw [big_eq, decide_eq_true (by omega)]; rfl

end Go.Proofs.Ytcnaocjhfgnphaa.Pure
