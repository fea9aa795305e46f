/- Proved: for all arguments the law FnExactNearestOf returns true. Conditions: none. -/
import Derived.Test.YtboccnkleaiclaaQFnExactNearestOfx1
namespace Go.Proofs.Ytboccnkleaiclaa.Pure
open Go.RowKit Go.Proofs.Ytboccnkleaiclaa.PFnExactNearestOf Go.Proofs.YtboccnkleaiclaaW.PrintWords Go.Proofs.YtboccnkleaiclaaW.PrintLast Go.Proofs.YtboccnkleaiclaaW.PrintMore
set_option linter.unusedVariables false
set_option linter.unusedSimpArgs false

theorem wid (n : Int) (h0 : -9223372036854775808 ≤ n) (h1 : n ≤ 9223372036854775807) : wrap64 n = n := by unfold wrap64; omega

theorem ediv_bounds (a b : Int) (hb : 0 < b) : b * (a / b) + a % b = a ∧ 0 ≤ a % b ∧ a % b < b := ⟨Int.mul_ediv_add_emod a b, Int.emod_nonneg _ (by omega), Int.emod_lt_of_pos _ hb⟩

/-- Go's truncated quotient and remainder by a positive number, in Lean's floor form. -/
theorem tdiv_pos_spec (a b : Int) (hb : 0 < b) : a.tmod b = (if 0 ≤ a ∨ a % b = 0 then a % b else a % b - b) ∧ a.tdiv b = (if 0 ≤ a ∨ a % b = 0 then a / b else a / b + 1) := by
  have h1 : a.tdiv b = (if 0 ≤ a ∨ a % b = 0 then a / b else a / b + 1) := by
    rw [Int.tdiv_eq_ediv]
    have e : b.sign = 1 := Int.sign_eq_one_of_pos hb
    rw [e]
    have : (b ∣ a) ↔ a % b = 0 := Int.dvd_iff_emod_eq_zero
    by_cases h : 0 ≤ a ∨ a % b = 0
    · rw [if_pos h, if_pos (by rw [this]; exact h)]; omega
    · rw [if_neg h, if_neg (by rw [this]; exact h)]
  refine ⟨?_, h1⟩
  have h2 := Int.mul_tdiv_add_tmod a b
  have h3 := Int.mul_ediv_add_emod a b
  rw [h1] at h2
  by_cases h : 0 ≤ a ∨ a % b = 0
  · rw [if_pos h] at h2 ⊢; omega
  · rw [if_neg h] at h2 ⊢; rw [Int.mul_add] at h2; omega

theorem ediv_range (a b : Int) (hb : 0 < b) (A : Int) (h0 : -A ≤ a) (h1 : a ≤ A) (hA : 0 ≤ A) : -A ≤ a / b ∧ a / b ≤ A := by
  constructor
  · rw [Int.le_ediv_iff_mul_le hb]
    have : -A * b ≤ -A * 1 := by
      have : A * 1 ≤ A * b := Int.mul_le_mul_of_nonneg_left (by omega) hA
      rw [Int.neg_mul, Int.neg_mul]; omega
    omega
  · have : a / b ≤ A / b := Int.ediv_le_ediv hb h1
    have h2 : A / b ≤ A := Int.ediv_le_self _ hA
    omega

theorem impl_in_eq (n lo hi : Int) : impl_in.f n lo hi = some (decide (lo ≤ n ∧ n ≤ hi)) := by
  unfold impl_in.f; by_cases h : n ≥ lo
  · rw [if_pos h]; simp [show lo ≤ n from h]
  · rw [if_neg h]; simp [show ¬ lo ≤ n from h]

theorem spec_in_eq (n lo hi : Int) : spec_l01In.f n lo hi = some (decide (lo ≤ n ∧ n ≤ hi)) := by
  unfold spec_l01In.f; by_cases h : n ≥ lo
  · rw [if_pos h]; simp [show lo ≤ n from h]
  · rw [if_neg h]; simp [show ¬ lo ≤ n from h]

theorem impl_isValue_eq (n : Int) : impl_isValue.f n = some (decide (-1000000000000 ≤ n ∧ n ≤ 1000000000000)) := by
  unfold impl_isValue.f; rw [impl_in_eq]; rfl

theorem spec_is_eq (n : Int) : spec_l01Is.f n = some (decide (-1000000000000 ≤ n ∧ n ≤ 1000000000000)) := by
  unfold spec_l01Is.f; rw [spec_in_eq]; rfl

theorem impl_floor_pos (a b : Int) (hb : 0 < b) (h0 : -9223372036854775807 ≤ a) (h1 : a ≤ 9223372036854775807) : impl_floor.f a b = some (a / b) := by
  have hr := ediv_range a b hb 9223372036854775807 h0 h1 (by omega)
  obtain ⟨e1, e2⟩ := tdiv_pos_spec a b hb
  have hm := Int.emod_nonneg a (show b ≠ 0 by omega)
  have hm2 := Int.emod_lt_of_pos a hb
  unfold impl_floor.f
  rw [if_neg (by omega), e1, e2]
  by_cases h : 0 ≤ a ∨ a % b = 0
  · rw [if_pos h, if_pos h, wid _ (by omega) (by omega)]
    by_cases hz : a % b = 0
    · rw [if_pos hz]
    · rw [if_neg hz, if_neg]
      have : ¬ (a % b < 0) := by omega
      have : ¬ (b < 0) := by omega
      simp [*]
  · rw [if_neg h, if_neg h, if_neg (by omega), if_pos]
    · have : a / b + 1 ≤ 0 := by
        have := Int.ediv_neg_of_neg_of_pos (show a < 0 by omega) hb
        omega
      rw [wid (a / b + 1) (by omega) (by omega), wid _ (by omega) (by omega)]; congr 1; omega
    · have : (a % b - b < 0) := by omega
      have : ¬ (b < 0) := by omega
      simp [*]

theorem spec_floor_pos (a b : Int) (hb : 0 < b) (h0 : -9223372036854775807 ≤ a) (h1 : a ≤ 9223372036854775807) : spec_l01Floor.f a b = some (a / b) := by
  have hr := ediv_range a b hb 9223372036854775807 h0 h1 (by omega)
  obtain ⟨e1, e2⟩ := tdiv_pos_spec a b hb
  have hm := Int.emod_nonneg a (show b ≠ 0 by omega)
  have hm2 := Int.emod_lt_of_pos a hb
  unfold spec_l01Floor.f
  rw [if_neg (by omega), if_neg (by omega), e1, e2]
  by_cases h : 0 ≤ a ∨ a % b = 0
  · rw [if_pos h, if_pos h, if_neg (by omega), wid _ (by omega) (by omega)]
  · rw [if_neg h, if_neg h, if_pos (by omega)]
    have : a / b + 1 ≤ 0 := by
      have := Int.ediv_neg_of_neg_of_pos (show a < 0 by omega) hb
      omega
    rw [wid (a / b + 1) (by omega) (by omega), wid _ (by omega) (by omega)]; congr 1; omega

/-- The nearest integer to a fraction of a positive denominator; a half goes up. -/
def nrs (a b : Int) : Int := (2 * a + b) / (2 * b)

theorem nrs_eq (a b : Int) (hb : 0 < b) : nrs a b = if b ≤ 2 * (a % b) then a / b + 1 else a / b := by
  obtain ⟨e, m0, m1⟩ := ediv_bounds a b hb
  unfold nrs
  have h : 2 * a + b = (2 * (a % b) + b) + (2 * b) * (a / b) := by rw [Int.mul_assoc]; omega
  rw [h, Int.add_mul_ediv_left _ _ (by omega)]
  by_cases k : b ≤ 2 * (a % b)
  · rw [if_pos k]
    have : (2 * (a % b) + b) / (2 * b) = 1 := by
      rw [show 2 * (a % b) + b = (2 * (a % b) - b) + 2 * b * 1 by omega, Int.add_mul_ediv_left _ _ (by omega), Int.ediv_eq_zero_of_lt (by omega) (by omega)]; rfl
    omega
  · rw [if_neg k, Int.ediv_eq_zero_of_lt (by omega) (by omega)]; omega

theorem impl_nearest_pos (a b : Int) (hb : 0 < b) (hb1 : b ≤ 1000000000000000000) (h0 : -4000000000000000000 ≤ a) (h1 : a ≤ 4000000000000000000) : impl_nearest.f a b = some (nrs a b) := by
  obtain ⟨e, m0, m1⟩ := ediv_bounds a b hb
  have hr := ediv_range a b hb 4000000000000000000 h0 h1 (by omega)
  have e2 : a / b * b = a - a % b := by rw [Int.mul_comm]; omega
  rw [nrs_eq a b hb]
  unfold impl_nearest.f
  rw [if_neg (by omega), impl_floor_pos a b hb (by omega) (by omega)]
  simp only [Option.bind_some]
  rw [e2, wid (a - a % b) (by omega) (by omega), show a - (a - a % b) = a % b by omega, wid (a % b) (by omega) (by omega), wid (b - a % b) (by omega) (by omega), wid (a / b + 1) (by omega) (by omega)]
  by_cases k : b ≤ 2 * (a % b)
  · rw [if_pos k, if_pos (by omega)]
  · rw [if_neg k, if_neg (by omega)]

theorem impl_nearest_neg (a b : Int) (hb : b < 0) (hb1 : -1000000000000000000 ≤ b) (h0 : -4000000000000000000 ≤ a) (h1 : a ≤ 4000000000000000000) : impl_nearest.f a b = some (nrs (-a) (-b)) := by
  have h := impl_nearest_pos (-a) (-b) (by omega) (by omega) (by omega) (by omega)
  unfold impl_nearest.f at h ⊢
  rw [if_neg (by omega)] at h
  rw [if_pos hb, wid (-a) (by omega) (by omega), wid (-b) (by omega) (by omega)]; exact h

theorem spec_nearest_pos (a b : Int) (hb : 0 < b) (hb1 : b ≤ 1000000000000000000) (h0 : -4000000000000000000 ≤ a) (h1 : a ≤ 4000000000000000000) : spec_l01Nearest.f a b = some (nrs a b) := by
  unfold spec_l01Nearest.f nrs
  rw [wid (2 * a) (by omega) (by omega), wid (2 * b) (by omega) (by omega), wid (2 * a + b) (by omega) (by omega), spec_floor_pos _ _ (by omega) (by omega) (by omega)]; rfl

/-- The code of a fraction. -/
def frc (a b : Int) : Int := if (-1000000000000 ≤ a ∧ a ≤ 1000000000000) ∧ (-1000000000000 ≤ b ∧ b ≤ 1000000000000) then (if b = 0 then 5 else 0) else 2

theorem spec_code_eq (k : Nat) (a b : Int) : spec_l01Code.f (k + 1) a b = some (frc a b) := by
  unfold spec_l01Code.f frc
  rw [spec_is_eq, spec_is_eq]
  simp only [Option.bind_some, spec_l01Code.j0]
  by_cases h1 : -1000000000000 ≤ a ∧ a ≤ 1000000000000
  · by_cases h2 : -1000000000000 ≤ b ∧ b ≤ 1000000000000
    · have c := And.intro h1 h2
      rw [decide_eq_true h1, decide_eq_true h2, if_pos c]
      by_cases h3 : b = 0 <;> simp [h3]
    · have c : ¬ ((-1000000000000 ≤ a ∧ a ≤ 1000000000000) ∧ (-1000000000000 ≤ b ∧ b ≤ 1000000000000)) := fun h => h2 h.2
      rw [decide_eq_true h1, decide_eq_false h2, if_neg c]; rfl
  · have c : ¬ ((-1000000000000 ≤ a ∧ a ≤ 1000000000000) ∧ (-1000000000000 ≤ b ∧ b ≤ 1000000000000)) := fun h => h1 h.1
    rw [decide_eq_false h1, if_neg c]; rfl

theorem impl_quotient_eq (k : Nat) (a b : Int) : impl_quotient.f (k + 1) a b = some (frc a b) := by
  unfold impl_quotient.f frc
  rw [impl_isValue_eq, impl_isValue_eq]
  simp only [Option.bind_some, impl_quotient.j0]
  by_cases h1 : -1000000000000 ≤ a ∧ a ≤ 1000000000000
  · by_cases h2 : -1000000000000 ≤ b ∧ b ≤ 1000000000000
    · have c := And.intro h1 h2
      rw [decide_eq_true h1, decide_eq_true h2, if_pos c]
      by_cases h3 : b = 0 <;> simp [h3]
    · have c : ¬ ((-1000000000000 ≤ a ∧ a ≤ 1000000000000) ∧ (-1000000000000 ≤ b ∧ b ≤ 1000000000000)) := fun h => h2 h.2
      rw [decide_eq_true h1, decide_eq_false h2, if_neg c]; rfl
  · have c : ¬ ((-1000000000000 ≤ a ∧ a ≤ 1000000000000) ∧ (-1000000000000 ≤ b ∧ b ≤ 1000000000000)) := fun h => h1 h.1
    rw [decide_eq_false h1, if_neg c]; rfl

theorem frc_zero {a b : Int} (h : frc a b = 0) : (-1000000000000 ≤ a ∧ a ≤ 1000000000000) ∧ (-1000000000000 ≤ b ∧ b ≤ 1000000000000) ∧ b ≠ 0 := by
  unfold frc at h
  by_cases c : (-1000000000000 ≤ a ∧ a ≤ 1000000000000) ∧ (-1000000000000 ≤ b ∧ b ≤ 1000000000000)
  · rw [if_pos c] at h
    refine ⟨c.1, c.2, fun e => ?_⟩
    rw [if_pos e] at h; omega
  · rw [if_neg c] at h; omega

def nro (a b : Int) : Int := if b < 0 then nrs (-a) (-b) else nrs a b

theorem spec_NearestOf_eq (k : Nat) (a b : Int) : spec_NearestOf.f (k + 1) a b = some (if frc a b = 0 then (nro a b, 0) else (0, frc a b)) := by
  unfold spec_NearestOf.f; rw [spec_code_eq]; simp only [Option.bind_some]
  by_cases h : frc a b = 0
  · obtain ⟨h1, h2, h3⟩ := frc_zero h
    unfold nro
    rw [if_pos h, if_pos h]
    by_cases hb : b < 0
    · rw [if_pos hb, if_pos hb, wid (-a) (by omega) (by omega), wid (-b) (by omega) (by omega), spec_nearest_pos _ _ (by omega) (by omega) (by omega) (by omega)]; rfl
    · rw [if_neg hb, if_neg hb, spec_nearest_pos _ _ (by omega) (by omega) (by omega) (by omega)]; rfl
  · rw [if_neg h, if_neg h]

theorem impl_NearestOf_eq (k : Nat) (a b : Int) : impl_NearestOf.f (k + 1) a b = some (if frc a b = 0 then (nro a b, 0) else (0, frc a b)) := by
  unfold impl_NearestOf.f; rw [impl_quotient_eq]; simp only [Option.bind_some]
  by_cases h : frc a b = 0
  · obtain ⟨h1, h2, h3⟩ := frc_zero h
    unfold nro
    rw [if_pos h, if_pos h]
    by_cases hb : b < 0
    · rw [if_pos hb, impl_nearest_neg _ _ (by omega) (by omega) (by omega) (by omega)]; rfl
    · rw [if_neg hb, impl_nearest_pos _ _ (by omega) (by omega) (by omega) (by omega)]; rfl
  · rw [if_neg h, if_neg h]

theorem FnExactNearestOf : laws_FnExactNearestOf.Pure := by
  intro a b _ _
  refine ⟨1, ?_⟩
  unfold laws_FnExactNearestOf.f
  rw [spec_NearestOf_eq 0, impl_NearestOf_eq 0]; simp only [Option.bind_some, if_true]

end Go.Proofs.Ytboccnkleaiclaa.Pure
