/- Proved: for every code the law FnMonths returns true. Conditions: none. -/
import Derived.Test.YtndjeclnadpifaaDoorQFnMonthsx11
namespace Go.Proofs.YtndjeclnadpifaaDoor.Pure
open Go.RowKit Go.Proofs.YtndjeclnadpifaaDoor.PFnMonths Go.Proofs.YtndjeclnadpifaaDoorW.PrintWords Go.Proofs.YtndjeclnadpifaaDoorW.PrintLast Go.Proofs.YtndjeclnadpifaaDoorW.PrintMore
set_option linter.unusedVariables false
set_option linter.unusedSimpArgs false

theorem wid (n : Int) (h0 : -9223372036854775808 ≤ n) (h1 : n ≤ 9223372036854775807) : wrap64 n = n := by unfold wrap64; omega

theorem tmodP (a b : Int) (h : 0 ≤ a) : a.tmod b = a % b := Int.tmod_eq_emod_of_nonneg h

theorem tdivP (a b : Int) (h : 0 ≤ a) : a.tdiv b = a / b := Int.tdiv_eq_ediv_of_nonneg h

theorem ediv_bounds (a b : Int) (hb : 0 < b) : b * (a / b) + a % b = a ∧ 0 ≤ a % b ∧ a % b < b := ⟨Int.mul_ediv_add_emod a b, Int.emod_nonneg _ (by omega), Int.emod_lt_of_pos _ hb⟩

/-- Go's truncated quotient and remainder by a positive number, in Lean's floor form. -/
theorem tdiv_pos_spec (a b : Int) (hb : 0 < b) : a.tmod b = (if 0 ≤ a ∨ a % b = 0 then a % b else a % b - b) ∧ a.tdiv b = (if 0 ≤ a ∨ a % b = 0 then a / b else a / b + 1) := by
  have h1 : a.tdiv b = (if 0 ≤ a ∨ a % b = 0 then a / b else a / b + 1) := by
    rw [Int.tdiv_eq_ediv]
    have e : b.sign = 1 := Int.sign_eq_one_of_pos hb
    rw [e]
    have : (b ∣ a) ↔ a % b = 0 := Int.dvd_iff_emod_eq_zero
    by_cases h : 0 ≤ a ∨ a % b = 0
    · rw [if_pos h, if_pos (by rw [this]; exact h)]; omega
    · rw [if_neg h, if_neg (by rw [this]; exact h)]
  refine ⟨?_, h1⟩
  have h2 := Int.mul_tdiv_add_tmod a b
  have h3 := Int.mul_ediv_add_emod a b
  rw [h1] at h2
  by_cases h : 0 ≤ a ∨ a % b = 0
  · rw [if_pos h] at h2 ⊢; omega
  · rw [if_neg h] at h2 ⊢; rw [Int.mul_add] at h2; omega

theorem ediv_range (a b : Int) (hb : 0 < b) (A : Int) (h0 : -A ≤ a) (h1 : a ≤ A) (hA : 0 ≤ A) : -A ≤ a / b ∧ a / b ≤ A := by
  constructor
  · rw [Int.le_ediv_iff_mul_le hb]
    have : -A * b ≤ -A * 1 := by
      have : A * 1 ≤ A * b := Int.mul_le_mul_of_nonneg_left (by omega) hA
      rw [Int.neg_mul, Int.neg_mul]; omega
    omega
  · have : a / b ≤ A / b := Int.ediv_le_ediv hb h1
    have h2 : A / b ≤ A := Int.ediv_le_self _ hA
    omega

theorem impl_in_eq (n lo hi : Int) : impl_in.f n lo hi = some (decide (lo ≤ n ∧ n ≤ hi)) := by
  unfold impl_in.f; by_cases h : n ≥ lo
  · rw [if_pos h]; simp [show lo ≤ n from h]
  · rw [if_neg h]; simp [show ¬ lo ≤ n from h]

theorem spec_in_eq (n lo hi : Int) : spec_l01In.f n lo hi = some (decide (lo ≤ n ∧ n ≤ hi)) := by
  unfold spec_l01In.f; by_cases h : n ≥ lo
  · rw [if_pos h]; simp [show lo ≤ n from h]
  · rw [if_neg h]; simp [show ¬ lo ≤ n from h]

theorem impl_floor_pos (a b : Int) (hb : 0 < b) (h0 : -9223372036854775807 ≤ a) (h1 : a ≤ 9223372036854775807) : impl_floor.f a b = some (a / b) := by
  have hr := ediv_range a b hb 9223372036854775807 h0 h1 (by omega)
  obtain ⟨e1, e2⟩ := tdiv_pos_spec a b hb
  have hm := Int.emod_nonneg a (show b ≠ 0 by omega)
  have hm2 := Int.emod_lt_of_pos a hb
  unfold impl_floor.f
  rw [if_neg (by omega), e1, e2]
  by_cases h : 0 ≤ a ∨ a % b = 0
  · rw [if_pos h, if_pos h, wid _ (by omega) (by omega)]
    by_cases hz : a % b = 0
    · rw [if_pos hz]
    · rw [if_neg hz, if_neg]
      have : ¬ (a % b < 0) := by omega
      have : ¬ (b < 0) := by omega
      simp [*]
  · rw [if_neg h, if_neg h, if_neg (by omega), if_pos]
    · have : a / b + 1 ≤ 0 := by
        have := Int.ediv_neg_of_neg_of_pos (show a < 0 by omega) hb
        omega
      rw [wid (a / b + 1) (by omega) (by omega), wid _ (by omega) (by omega)]; congr 1; omega
    · have : (a % b - b < 0) := by omega
      have : ¬ (b < 0) := by omega
      simp [*]

theorem impl_mod_pos (a b : Int) (hb : 0 < b) (hb1 : b ≤ 9223372036854775807) (h0 : -9223372036854775807 ≤ a) (h1 : a ≤ 9223372036854775807) (hab : -9223372036854775807 ≤ a - b) : impl_mod.f a b = some (a % b) := by
  obtain ⟨e, m0, m1⟩ := ediv_bounds a b hb
  unfold impl_mod.f
  rw [impl_floor_pos a b hb h0 h1]
  have e2 : a / b * b = a - a % b := by rw [Int.mul_comm]; omega
  simp only [Option.bind_some]
  rw [e2, wid (a - a % b) (by omega) (by omega), wid _ (by omega) (by omega)]; congr 1; omega

theorem spec_mod_pos (a b : Int) (hb : 0 < b) (hb1 : b ≤ 4611686018427387904) : spec_l01Mod.f a b = some (a % b) := by
  unfold spec_l01Mod.f
  rw [if_neg (by omega)]
  obtain ⟨e1, e2⟩ := tdiv_pos_spec a b hb
  have m0 := Int.emod_nonneg a (show b ≠ 0 by omega)
  have m1 := Int.emod_lt_of_pos a hb
  rw [e1]
  by_cases h : 0 ≤ a ∨ a % b = 0
  · rw [if_pos h, wid _ (by omega) (by omega), tmodP _ _ (by omega), Int.add_emod_right, Int.emod_emod]
  · rw [if_neg h, wid _ (by omega) (by omega), tmodP _ _ (by omega)]
    have : a % b - b + b = a % b := by omega
    rw [this, Int.emod_emod]

theorem spec_floor_pos (a b : Int) (hb : 0 < b) (h0 : -9223372036854775807 ≤ a) (h1 : a ≤ 9223372036854775807) : spec_l01Floor.f a b = some (a / b) := by
  have hr := ediv_range a b hb 9223372036854775807 h0 h1 (by omega)
  obtain ⟨e1, e2⟩ := tdiv_pos_spec a b hb
  have hm := Int.emod_nonneg a (show b ≠ 0 by omega)
  have hm2 := Int.emod_lt_of_pos a hb
  unfold spec_l01Floor.f
  rw [if_neg (by omega), if_neg (by omega), e1, e2]
  by_cases h : 0 ≤ a ∨ a % b = 0
  · rw [if_pos h, if_pos h, if_neg (by omega), wid _ (by omega) (by omega)]
  · rw [if_neg h, if_neg h, if_pos (by omega)]
    have : a / b + 1 ≤ 0 := by
      have := Int.ediv_neg_of_neg_of_pos (show a < 0 by omega) hb
      omega
    rw [wid (a / b + 1) (by omega) (by omega), wid _ (by omega) (by omega)]; congr 1; omega

theorem spec_floor_neg (a b : Int) (hb : b < 0) (hb1 : -9223372036854775807 ≤ b) (h0 : -9223372036854775807 ≤ a) (h1 : a ≤ 9223372036854775807) : spec_l01Floor.f a b = some ((-a) / (-b)) := by
  have h := spec_floor_pos (-a) (-b) (by omega) (by omega) (by omega)
  unfold spec_l01Floor.f at h ⊢
  rw [if_neg (by omega), if_neg (by omega)] at h
  rw [if_pos hb, wid (-a) (by omega) (by omega), wid (-b) (by omega) (by omega), if_neg (by omega)]; exact h

/-- The floor of a fraction, whatever the sign of its denominator. -/
def flr (a b : Int) : Int := if 0 < b then a / b else (-a) / (-b)

theorem spec_floor_eq (a b : Int) (hb : b ≠ 0) (hb1 : -9223372036854775807 ≤ b) (h0 : -9223372036854775807 ≤ a) (h1 : a ≤ 9223372036854775807) : spec_l01Floor.f a b = some (flr a b) := by
  unfold flr; by_cases h : 0 < b
  · rw [if_pos h, spec_floor_pos a b h h0 h1]
  · rw [if_neg h, spec_floor_neg a b (by omega) hb1 h0 h1]

theorem flr_range (a b : Int) (hb : b ≠ 0) (A : Int) (h0 : -A ≤ a) (h1 : a ≤ A) (hA : 0 ≤ A) : -A ≤ flr a b ∧ flr a b ≤ A := by
  unfold flr; by_cases h : 0 < b
  · rw [if_pos h]; exact ediv_range a b h A h0 h1 hA
  · rw [if_neg h]; exact ediv_range (-a) (-b) (by omega) A (by omega) (by omega) hA

theorem spec_ceil_eq (a b : Int) (hb : b ≠ 0) (hb1 : -9223372036854775807 ≤ b) (h0 : -9223372036854775807 ≤ a) (h1 : a ≤ 9223372036854775807) : spec_l01Ceil.f a b = some (-(flr (-a) b)) := by
  have := flr_range (-a) b hb 9223372036854775807 (by omega) (by omega) (by omega)
  unfold spec_l01Ceil.f; rw [wid (-a) (by omega) (by omega), spec_floor_eq (-a) b hb hb1 (by omega) (by omega)]; simp only [Option.bind_some]; rw [wid _ (by omega) (by omega)]

theorem bind_dec {α : Type} (p : Prop) [Decidable p] (A : Option α) (B : α) : ((some (decide p)).bind fun t => if t = true then A else some B) = if p then A else some B := by
  by_cases h : p <;> simp [h]

theorem ite_and {α : Type} (p q : Prop) [Decidable p] [Decidable q] (A B : α) : (if p then (if q then A else B) else B) = if p ∧ q then A else B := by
  by_cases h : p <;> by_cases h2 : q <;> simp [h, h2]

theorem dec_and (p q : Prop) [Decidable p] [Decidable q] : (if decide p = true then some (decide q) else some false) = some (decide (p ∧ q)) := by
  by_cases h : p <;> simp [h]

theorem ite_notdec {α : Type} (p : Prop) [Decidable p] (A B : α) : (if (!decide p) = true then A else B) = if p then B else A := by
  by_cases h : p <;> simp [h]

theorem flr_pos (a b : Int) (h : 0 < b) : flr a b = a / b := by unfold flr; rw [if_pos h]

def dim (y m : Int) : Int := if m = 2 then (if y % 4 = 0 then 29 else 28) else if m = 4 ∨ m = 6 ∨ m = 9 ∨ m = 11 then 30 else 31

theorem tmod4 (y : Int) : Int.tmod y 4 = 0 ↔ y % 4 = 0 := by
  obtain ⟨e, _⟩ := tdiv_pos_spec y 4 (by omega)
  rw [e]; by_cases h : 0 ≤ y ∨ y % 4 = 0
  · rw [if_pos h]
  · rw [if_neg h]; omega

theorem spec_days_eq (y m : Int) : spec_l07Days.f y m = some (dim y m) := by
  unfold spec_l07Days.f dim
  by_cases h2 : m = 2
  · rw [if_pos h2, if_pos h2]; by_cases h : y % 4 = 0
    · rw [if_pos h, if_pos ((tmod4 y).2 h)]
    · rw [if_neg h, if_neg (fun k => h ((tmod4 y).1 k))]
  · rw [if_neg h2, if_neg h2]
    by_cases h4 : m = 4
    · rw [if_pos h4, if_pos (.inl h4)]
    · by_cases h6 : m = 6
      · rw [if_neg h4, if_pos h6, if_pos (.inr (.inl h6))]
      · by_cases h9 : m = 9
        · rw [if_neg h4, if_neg h6, if_pos h9, if_pos (.inr (.inr (.inl h9)))]
        · by_cases h11 : m = 11
          · rw [if_neg h4, if_neg h6, if_neg h9, if_pos h11, if_pos (.inr (.inr (.inr h11)))]
          · rw [if_neg h4, if_neg h6, if_neg h9, if_neg h11, if_neg (by omega)]

theorem impl_days_eq (k : Nat) (y m : Int) : impl_daysInMonth.f (k + 1) y m = some (dim y m) := by
  unfold impl_daysInMonth.f dim
  simp only [impl_daysInMonth.j0]
  by_cases h4 : m = 4
  · subst h4; simp
  · by_cases h6 : m = 6
    · subst h6; simp
    · by_cases h9 : m = 9
      · subst h9; simp
      · by_cases h11 : m = 11
        · subst h11; simp
        · rw [if_neg h4, if_neg h6, if_neg h9, if_neg (by simpa using h11)]
          by_cases h2 : m = 2
          · rw [if_pos h2, if_pos h2]; by_cases h : y % 4 = 0
            · rw [if_pos h, if_pos ((tmod4 y).2 h)]
            · rw [if_neg h, if_neg (fun k => h ((tmod4 y).1 k))]
          · rw [if_neg h2, if_neg h2, if_neg (by omega)]

abbrev mon (y m : Int) : Prop := (1901 ≤ y ∧ y ≤ 2099) ∧ (1 ≤ m ∧ m ≤ 12)

theorem spec_month_eq (y m : Int) : spec_l07Month.f y m = some (decide (mon y m)) := by
  unfold spec_l07Month.f; rw [spec_in_eq, spec_in_eq]; simp only [Option.bind_some, dec_and]

theorem impl_isMonth_eq (y m : Int) : impl_isMonth.f y m = some (decide (mon y m)) := by
  unfold impl_isMonth.f; rw [impl_in_eq, impl_in_eq]; simp only [Option.bind_some, dec_and]

theorem spec_DaysInMonth_eq (y m : Int) : spec_DaysInMonth.f y m = some (if mon y m then (dim y m, 0) else (0, 2)) := by
  unfold spec_DaysInMonth.f; rw [spec_month_eq, spec_days_eq, bind_dec]; simp only [Option.bind_some]; rw [apply_ite some]

theorem impl_DaysInMonth_eq (k : Nat) (y m : Int) : impl_DaysInMonth.f (k + 1) y m = some (if mon y m then (dim y m, 0) else (0, 2)) := by
  unfold impl_DaysInMonth.f; rw [impl_isMonth_eq, impl_days_eq, bind_dec]; simp only [Option.bind_some]; rw [apply_ite some]

abbrev dat (y m d : Int) : Prop := mon y m ∧ (1 ≤ d ∧ d ≤ dim y m)

theorem spec_IsDate_eq (y m d : Int) : spec_IsDate.f y m d = some (decide (dat y m d)) := by
  unfold spec_IsDate.f; rw [spec_month_eq, spec_days_eq]; simp only [Option.bind_some]; rw [spec_in_eq]; simp only [Option.bind_some, dec_and]

theorem impl_IsDate_eq (k : Nat) (y m d : Int) : impl_IsDate.f (k + 1) y m d = some (decide (dat y m d)) := by
  unfold impl_IsDate.f; rw [impl_isMonth_eq, impl_days_eq]; simp only [Option.bind_some]; rw [impl_in_eq]; simp only [Option.bind_some, dec_and]

/-- The number of January 1 of a year; the days of a year's first n months; the number of a date. -/
def yr (y : Int) : Int := 365 * (y - 2000) - (2000 - y) / 4

def cum (y : Int) : Nat → Int
  | 0 => 0
  | n + 1 => cum y n + dim y ((n : Int) + 1)

def num (y m d : Int) : Int := yr y + d - 1 + cum y (m - 1).toNat

theorem dim_range (y m : Int) : 28 ≤ dim y m ∧ dim y m ≤ 31 := by
  unfold dim; repeat' split
  all_goals omega

theorem cum_succ (y j : Int) (h : 1 ≤ j) : cum y j.toNat = cum y (j - 1).toNat + dim y j := by
  obtain ⟨n, rfl⟩ : ∃ n : Nat, j = (n : Int) + 1 := ⟨(j - 1).toNat, by omega⟩
  rw [show ((n : Int) + 1).toNat = n + 1 by omega, show ((n : Int) + 1 - 1).toNat = n by omega]; rfl

theorem cum_range (y : Int) : ∀ n : Nat, 28 * (n : Int) ≤ cum y n ∧ cum y n ≤ 31 * (n : Int)
  | 0 => by simp [cum]
  | n + 1 => by
    have := cum_range y n; have := dim_range y ((n : Int) + 1)
    simp only [cum]; omega

theorem cum_mono (y : Int) : ∀ (k n : Nat), cum y n ≤ cum y (n + k)
  | 0, n => by simp
  | k + 1, n => by
    have := cum_mono y k n; have := dim_range y (((n + k : Nat) : Int) + 1)
    rw [show n + (k + 1) = (n + k) + 1 by omega]; simp only [cum]; omega

theorem dim2 (y : Int) : dim y 2 = if y % 4 = 0 then 29 else 28 := by unfold dim; rw [if_pos rfl]

theorem cum12 (y : Int) : cum y 12 = if y % 4 = 0 then 366 else 365 := by
  have d1 : dim y 1 = 31 := rfl
  have d3 : dim y 3 = 31 := rfl
  have d4 : dim y 4 = 30 := rfl
  have d5 : dim y 5 = 31 := rfl
  have d6 : dim y 6 = 30 := rfl
  have d7 : dim y 7 = 31 := rfl
  have d8 : dim y 8 = 31 := rfl
  have d9 : dim y 9 = 30 := rfl
  have d10 : dim y 10 = 31 := rfl
  have d11 : dim y 11 = 30 := rfl
  have d12 : dim y 12 = 31 := rfl
  have e : cum y 12 = 0 + dim y 1 + dim y 2 + dim y 3 + dim y 4 + dim y 5 + dim y 6 + dim y 7 + dim y 8 + dim y 9 + dim y 10 + dim y 11 + dim y 12 := rfl
  have d2 := dim2 y
  rw [e, d1, d3, d4, d5, d6, d7, d8, d9, d10, d11, d12, d2]
  split <;> rfl

theorem yr_succ (y : Int) : yr (y + 1) = yr y + cum y 12 := by
  rw [cum12]; unfold yr; split <;> omega

theorem yr_mono (a b : Int) (h : a ≤ b) : yr a ≤ yr b := by unfold yr; omega

theorem spec_year_eq (y : Int) (h0 : -1000000 ≤ y) (h1 : y ≤ 1000000) : spec_l07Year.f y = some (yr y) := by
  unfold spec_l07Year.f yr
  rw [wid (y - 2000) (by omega) (by omega), spec_ceil_eq _ _ (by omega) (by omega) (by omega) (by omega), flr_pos _ _ (by omega)]; simp only [Option.bind_some]
  rw [wid (365 * (y - 2000)) (by omega) (by omega), wid _ (by omega) (by omega)]; congr 1; omega

theorem spec_number_loop (y m d : Int) (hm : m ≤ 12) : ∀ (t : Nat) (n j : Int), 1 ≤ j → m - j ≤ t → j ≤ m → -1000000 ≤ n → n ≤ 1000000 + 31 * j → ∀ k, t < k → spec_l07Number.l0 k n j y m d = some (n + cum y (m - 1).toNat - cum y (j - 1).toNat) := by
  intro t
  induction t with
  | zero =>
    intro n j hj ht hjm hn hn1 k hk
    obtain ⟨k, rfl⟩ : ∃ z, k = z + 1 := ⟨k - 1, by omega⟩
    obtain rfl : j = m := by omega
    simp only [spec_l07Number.l0]; rw [if_neg (by omega)]; congr 1; omega
  | succ t ih =>
    intro n j hj ht hjm hn hn1 k hk
    obtain ⟨k, rfl⟩ : ∃ z, k = z + 1 := ⟨k - 1, by omega⟩
    simp only [spec_l07Number.l0]
    by_cases h : j < m
    · have := dim_range y j
      have := cum_succ y j hj
      rw [if_pos h, spec_days_eq]; simp only [Option.bind_some]
      rw [wid (n + dim y j) (by omega) (by omega), wid (j + 1) (by omega) (by omega), ih (n + dim y j) (j + 1) (by omega) (by omega) (by omega) (by omega) (by omega) k (by omega), show j + 1 - 1 = j by omega]
      congr 1; omega
    · obtain rfl : j = m := by omega
      rw [if_neg h]; congr 1; omega

theorem impl_number_loop (y m d : Int) (hm : m ≤ 12) : ∀ (t : Nat) (n j : Int), 1 ≤ j → m - j ≤ t → j ≤ m → -1000000 ≤ n → n ≤ 1000000 + 31 * j → ∀ k, t + 1 < k → impl_dayNumber.l0 k n j y m d = some (n + cum y (m - 1).toNat - cum y (j - 1).toNat) := by
  intro t
  induction t with
  | zero =>
    intro n j hj ht hjm hn hn1 k hk
    obtain ⟨k, rfl⟩ : ∃ z, k = z + 1 := ⟨k - 1, by omega⟩
    obtain rfl : j = m := by omega
    simp only [impl_dayNumber.l0]; rw [if_neg (by omega)]; congr 1; omega
  | succ t ih =>
    intro n j hj ht hjm hn hn1 k hk
    obtain ⟨k, rfl⟩ : ∃ z, k = z + 1 := ⟨k - 1, by omega⟩
    simp only [impl_dayNumber.l0]
    by_cases h : j < m
    · have := dim_range y j
      have := cum_succ y j hj
      have hd : impl_daysInMonth.f k y j = some (dim y j) := by
        obtain ⟨k, rfl⟩ : ∃ z, k = z + 1 := ⟨k - 1, by omega⟩
        exact impl_days_eq k y j
      rw [if_pos h, hd]; simp only [Option.bind_some]
      rw [wid (n + dim y j) (by omega) (by omega), wid (j + 1) (by omega) (by omega), ih (n + dim y j) (j + 1) (by omega) (by omega) (by omega) (by omega) (by omega) k (by omega), show j + 1 - 1 = j by omega]
      congr 1; omega
    · obtain rfl : j = m := by omega
      rw [if_neg h]; congr 1; omega

theorem yr_range (y : Int) (h0 : 1900 ≤ y) (h1 : y ≤ 2101) : -36600 ≤ yr y ∧ yr y ≤ 37000 := by unfold yr; omega

theorem spec_number_eq (y m d : Int) (h0 : 1900 ≤ y) (h1 : y ≤ 2101) (hm0 : 1 ≤ m) (hm1 : m ≤ 12) (hd0 : -1000 ≤ d) (hd1 : d ≤ 1000) (k : Nat) (hk : 13 < k) : spec_l07Number.f k y m d = some (num y m d) := by
  have := yr_range y h0 h1
  unfold spec_l07Number.f num
  rw [spec_year_eq y (by omega) (by omega)]; simp only [Option.bind_some]
  rw [wid (yr y + d) (by omega) (by omega), wid (yr y + d - 1) (by omega) (by omega), spec_number_loop y m d hm1 12 _ 1 (by omega) (by omega) hm0 (by omega) (by omega) k (by omega)]
  simp [cum]

theorem impl_number_eq (y m d : Int) (h0 : 1901 ≤ y) (h1 : y ≤ 2101) (hm0 : 1 ≤ m) (hm1 : m ≤ 12) (hd0 : -1000 ≤ d) (hd1 : d ≤ 1000) (k : Nat) (hk : 13 < k) : impl_dayNumber.f k y m d = some (num y m d) := by
  have := yr_range y (by omega) h1
  have e : -36159 + 365 * (y - 1901) + (y - 1901) / 4 = yr y := by unfold yr; omega
  unfold impl_dayNumber.f num
  rw [wid (y - 1901) (by omega) (by omega), tdivP _ _ (by omega), wid (365 * (y - 1901)) (by omega) (by omega), wid ((y - 1901) / 4) (by omega) (by omega), wid (-36159 + 365 * (y - 1901)) (by omega) (by omega), e,
    wid (yr y) (by omega) (by omega), wid (yr y + d) (by omega) (by omega), wid (yr y + d - 1) (by omega) (by omega), impl_number_loop y m d hm1 12 _ 1 (by omega) (by omega) hm0 (by omega) (by omega) k (by omega)]
  simp [cum]

theorem dat_bounds {y m d : Int} (h : dat y m d) : 1901 ≤ y ∧ y ≤ 2099 ∧ 1 ≤ m ∧ m ≤ 12 ∧ 1 ≤ d ∧ d ≤ 31 := by
  have := dim_range y m; omega

theorem num_range {y m d : Int} (h0 : 1900 ≤ y) (h1 : y ≤ 2101) (hm0 : 1 ≤ m) (hm1 : m ≤ 12) (hd0 : 0 ≤ d) (hd1 : d ≤ 31) : -40000 ≤ num y m d ∧ num y m d ≤ 40000 := by
  have := yr_range y h0 h1
  have := cum_range y (m - 1).toNat
  unfold num; omega

theorem impl_weekday_eq (n : Int) (h0 : -1000000 ≤ n) (h1 : n ≤ 1000000) : impl_weekday.f n = some ((n + 5) % 7) := by
  unfold impl_weekday.f; rw [wid (n + 5) (by omega) (by omega), impl_mod_pos _ _ (by omega) (by omega) (by omega) (by omega) (by omega)]; rfl

theorem spec_weekday_eq (n : Int) (h0 : -1000000 ≤ n) (h1 : n ≤ 1000000) : spec_l07Weekday.f n = some ((n + 5) % 7) := by
  unfold spec_l07Weekday.f; rw [wid (n + 5) (by omega) (by omega), spec_mod_pos _ _ (by omega) (by omega)]; rfl

theorem impl_WeekdayOf_eq (k : Nat) (y m d : Int) : impl_WeekdayOf.f (k + 20) y m d = some (if dat y m d then ((num y m d + 5) % 7, 0) else (0, 1)) := by
  unfold impl_WeekdayOf.f; rw [impl_IsDate_eq (k + 19), bind_dec]
  by_cases h : dat y m d
  · have b := dat_bounds h
    have := num_range (y := y) (m := m) (d := d) (by omega) (by omega) (by omega) (by omega) (by omega) (by omega)
    rw [if_pos h, if_pos h, impl_number_eq y m d (by omega) (by omega) (by omega) (by omega) (by omega) (by omega) _ (by omega)]; simp only [Option.bind_some]
    rw [impl_weekday_eq _ (by omega) (by omega)]; rfl
  · rw [if_neg h, if_neg h]

/-- Whether a number is that of a date: the first one's is yr 1901, the last one's the one ahead of yr 2100. -/
abbrev isN (n : Int) : Prop := -36159 ≤ n ∧ n ≤ 36524

theorem yr_1901 : yr 1901 = -36159 := by decide

theorem yr_2100 : yr 2100 = 36525 := by decide

/-- Each number between the first and the last has a date. -/
theorem year_of (n : Int) (h0 : yr 1901 ≤ n) : ∀ j : Nat, n < yr (1901 + j) → ∃ y : Int, 1901 ≤ y ∧ y < 1901 + j ∧ yr y ≤ n ∧ n < yr (y + 1)
  | 0, h => by simp at h; omega
  | j + 1, h => by
    by_cases c : n < yr (1901 + j)
    · obtain ⟨y, a, b, c, d⟩ := year_of n h0 j c
      exact ⟨y, a, by omega, c, d⟩
    · exact ⟨1901 + (j : Int), by omega, by omega, by omega, by rw [show (1901 + (j : Int)) + 1 = 1901 + ((j + 1 : Nat) : Int) by omega]; exact h⟩

theorem month_of (y r : Int) (h0 : 0 ≤ r) : ∀ j : Nat, r < cum y j → ∃ m : Int, 1 ≤ m ∧ m ≤ j ∧ cum y (m - 1).toNat ≤ r ∧ r < cum y m.toNat
  | 0, h => by simp [cum] at h; omega
  | j + 1, h => by
    by_cases c : r < cum y j
    · obtain ⟨m, a, b, c, d⟩ := month_of y r h0 j c
      exact ⟨m, a, by omega, c, d⟩
    · exact ⟨(j : Int) + 1, by omega, by omega, by rw [show ((j : Int) + 1 - 1).toNat = j by omega]; omega, by rw [show ((j : Int) + 1).toNat = j + 1 by omega]; exact h⟩

theorem date_of (n : Int) (h : isN n) : ∃ y m d, dat y m d ∧ num y m d = n := by
  obtain ⟨y, y0, y1, y2, y3⟩ := year_of n (by rw [yr_1901]; omega) 199 (by rw [show (1901 : Int) + (199 : Nat) = 2100 by omega, yr_2100]; omega)
  obtain ⟨m, m0, m1, m2, m3⟩ := month_of y (n - yr y) (by omega) 12 (by rw [yr_succ] at y3; omega)
  have := cum_succ y m m0
  exact ⟨y, m, n - yr y - cum y (m - 1).toNat + 1, ⟨⟨⟨y0, by omega⟩, ⟨m0, by omega⟩⟩, by omega, by omega⟩, by unfold num; omega⟩

/-- What a date's number says of its year and month. -/
theorem date_year {y m d n : Int} (h : dat y m d) (hn : num y m d = n) : yr y ≤ n ∧ n < yr (y + 1) := by
  obtain ⟨b0, b1, b2, b3, b4, b5⟩ := dat_bounds h
  have c0 := cum_succ y m b2
  have c1 := cum_range y (m - 1).toNat
  have c2 := cum_mono y (12 - m).toNat m.toNat
  rw [show m.toNat + (12 - m).toNat = 12 by omega] at c2
  have := yr_succ y
  unfold num at hn; omega

theorem cum_le (y a b : Int) (h0 : 0 ≤ a) (h : a ≤ b) : cum y a.toNat ≤ cum y b.toNat := by
  have := cum_mono y (b - a).toNat a.toNat
  rwa [show a.toNat + (b - a).toNat = b.toNat by omega] at this

theorem spec_date_months {y m d n : Int} (h : dat y m d) (hn : num y m d = n) : ∀ (t : Nat) (j : Int), 1 ≤ j → j ≤ m → m - j ≤ t → ∀ k, t < k → spec_l07Date.l1 k y (n - yr y - cum y (j - 1).toNat) j = some (y, m, d) := by
  obtain ⟨b0, b1, b2, b3, b4, b5⟩ := dat_bounds h
  have hy := yr_range y (by omega) (by omega)
  have hc := cum_range y (m - 1).toNat
  intro t
  induction t with
  | zero =>
    intro j j0 j1 j2 k hk
    obtain ⟨k, rfl⟩ : ∃ z, k = z + 1 := ⟨k - 1, by omega⟩
    obtain rfl : j = m := by omega
    have e : n - yr y - cum y (j - 1).toNat = d - 1 := by unfold num at hn; omega
    simp only [spec_l07Date.l1]; rw [e, spec_days_eq]; simp only [Option.bind_some]
    rw [if_neg (by omega), wid _ (by omega) (by omega)]; simp
  | succ t ih =>
    intro j j0 j1 j2 k hk
    obtain ⟨k, rfl⟩ : ∃ z, k = z + 1 := ⟨k - 1, by omega⟩
    by_cases c : j = m
    · subst c
      have e : n - yr y - cum y (j - 1).toNat = d - 1 := by unfold num at hn; omega
      simp only [spec_l07Date.l1]; rw [e, spec_days_eq]; simp only [Option.bind_some]
      rw [if_neg (by omega), wid _ (by omega) (by omega)]; simp
    · have c1 := cum_succ y j j0
      have c2 := cum_le y j (m - 1) (by omega) (by omega)
      have c3 := cum_range y (j - 1).toNat
      have c4 := dim_range y j
      simp only [spec_l07Date.l1]; rw [spec_days_eq]; simp only [Option.bind_some]
      rw [if_pos (by unfold num at hn; omega), wid (n - yr y - cum y (j - 1).toNat - dim y j) (by unfold num at hn; omega) (by unfold num at hn; omega), wid (j + 1) (by omega) (by omega)]
      have := ih (j + 1) (by omega) (by omega) (by omega) k (by omega)
      rw [show j + 1 - 1 = j by omega, c1] at this
      rw [show n - yr y - cum y (j - 1).toNat - dim y j = n - yr y - (cum y (j - 1).toNat + dim y j) by omega]; exact this

theorem spec_date_years {y m d n : Int} (h : dat y m d) (hn : num y m d = n) : ∀ (t : Nat) (j : Int), 1901 ≤ j → j ≤ y → y - j ≤ t → ∀ k, t + 13 < k → spec_l07Date.l0 k n j = some (y, m, d) := by
  obtain ⟨b0, b1, b2, b3, b4, b5⟩ := dat_bounds h
  obtain ⟨g0, g1⟩ := date_year h hn
  have hend : ∀ k, 13 < k → spec_l07Date.l0 k n y = some (y, m, d) := by
    intro k hk
    obtain ⟨k, rfl⟩ : ∃ z, k = z + 1 := ⟨k - 1, by omega⟩
    have hy := yr_range y (by omega) (by omega)
    have hy1 := yr_range (y + 1) (by omega) (by omega)
    simp only [spec_l07Date.l0]
    rw [wid (y + 1) (by omega) (by omega), spec_year_eq (y + 1) (by omega) (by omega), spec_year_eq y (by omega) (by omega)]; simp only [Option.bind_some]
    rw [if_neg (by omega), wid (n - yr y) (by omega) (by omega)]
    have := spec_date_months h hn 12 1 (by omega) (by omega) (by omega) k (by omega)
    simpa [cum] using this
  intro t
  induction t with
  | zero =>
    intro j j0 j1 j2 k hk
    obtain rfl : j = y := by omega
    exact hend k (by omega)
  | succ t ih =>
    intro j j0 j1 j2 k hk
    by_cases c : j = y
    · subst c; exact hend k (by omega)
    · obtain ⟨k, rfl⟩ : ∃ z, k = z + 1 := ⟨k - 1, by omega⟩
      have := yr_mono (j + 1) y (by omega)
      simp only [spec_l07Date.l0]
      rw [wid (j + 1) (by omega) (by omega), spec_year_eq (j + 1) (by omega) (by omega)]; simp only [Option.bind_some]
      rw [if_pos (by omega)]
      exact ih (j + 1) (by omega) (by omega) (by omega) k (by omega)

/-- The first day of a month with a weekday; what the n-th one is. -/
def fstD (y m w : Int) : Int := 1 + (w - (num y m 1 + 5) % 7) % 7

def nthV (y m w n : Int) : Int × Int × Int × Int :=
  if n = 0 then (y, m, fstD y m w + (dim y m - fstD y m w) / 7 * 7, 0) else if fstD y m w + 7 * (n - 1) > dim y m then (0, 0, 0, 4) else (y, m, fstD y m w + 7 * (n - 1), 0)

theorem impl_nth_eq (k : Nat) (y m w n : Int) (hm : mon y m) (hw : 0 ≤ w ∧ w ≤ 6) (hn : 0 ≤ n ∧ n ≤ 5) : impl_nthWeekday.f (k + 20) y m w n = some (nthV y m w n) := by
  have b := num_range (y := y) (m := m) (d := 1) (by omega) (by omega) (by omega) (by omega) (by omega) (by omega)
  have dr := dim_range y m
  unfold impl_nthWeekday.f nthV fstD
  rw [impl_number_eq y m 1 (by omega) (by omega) (by omega) (by omega) (by omega) (by omega) _ (by omega)]; simp only [Option.bind_some]
  rw [impl_weekday_eq _ (by omega) (by omega)]; simp only [Option.bind_some]
  generalize hq : (num y m 1 + 5) % 7 = q
  have q0 : 0 ≤ q ∧ q < 7 := by omega
  rw [wid (w - q) (by omega) (by omega), impl_mod_pos _ _ (by omega) (by omega) (by omega) (by omega) (by omega), impl_days_eq (k + 19)]; simp only [Option.bind_some]
  generalize hf : (w - q) % 7 = f
  have f0 : 0 ≤ f ∧ f < 7 := by omega
  rw [wid (1 + f) (by omega) (by omega), wid (dim y m - (1 + f)) (by omega) (by omega), tdivP _ _ (by omega), wid ((dim y m - (1 + f)) / 7) (by omega) (by omega), wid ((dim y m - (1 + f)) / 7 * 7) (by omega) (by omega), wid (1 + f + (dim y m - (1 + f)) / 7 * 7) (by omega) (by omega),
    wid (n - 1) (by omega) (by omega), wid (7 * (n - 1)) (by omega) (by omega), wid (1 + f + 7 * (n - 1)) (by omega) (by omega)]
  by_cases c : n = 0
  · rw [if_pos c, if_pos c]
  · rw [if_neg c, if_neg c]
    by_cases c2 : 1 + f + 7 * (n - 1) > dim y m
    · rw [if_pos c2, if_pos c2]
    · rw [if_neg c2, if_neg c2]

/-- What the reference's count and day are, ahead of a day: F the first such day. -/
def cntD (F d : Int) : Int := (d + 6 - F) / 7

def outD (F n d : Int) : Int := if n = 0 then (if cntD F d = 0 then 0 else F + 7 * (cntD F d - 1)) else (if n ≤ cntD F d then F + 7 * (n - 1) else 0)

theorem num_day (y m d : Int) : num y m d = num y m 1 + (d - 1) := by unfold num; omega

theorem spec_nth_loop (y m w n : Int) (hm : mon y m) (hw : 0 ≤ w ∧ w ≤ 6) (hn : 0 ≤ n ∧ n ≤ 5) : ∀ (t : Nat) (d : Int), 1 ≤ d → d ≤ dim y m + 1 → dim y m + 1 - d ≤ t → ∀ k, t + 15 < k →
    spec_l07Nth.l0 k y m w n (cntD (fstD y m w) d) d y m (outD (fstD y m w) n d) = some (y, m, outD (fstD y m w) n (dim y m + 1)) := by
  have b := num_range (y := y) (m := m) (d := 1) (by omega) (by omega) (by omega) (by omega) (by omega) (by omega)
  have dr := dim_range y m
  have F0 : 1 ≤ fstD y m w ∧ fstD y m w ≤ 7 := by unfold fstD; omega
  intro t
  induction t with
  | zero =>
    intro d d0 d1 d2 k hk
    obtain ⟨k, rfl⟩ : ∃ z, k = z + 1 := ⟨k - 1, by omega⟩
    obtain rfl : d = dim y m + 1 := by omega
    simp only [spec_l07Nth.l0]; rw [spec_days_eq]; simp only [Option.bind_some]
    rw [if_neg (by omega)]
  | succ t ih =>
    intro d d0 d1 d2 k hk
    obtain ⟨k, rfl⟩ : ∃ z, k = z + 1 := ⟨k - 1, by omega⟩
    by_cases c : d = dim y m + 1
    · subst c
      simp only [spec_l07Nth.l0]; rw [spec_days_eq]; simp only [Option.bind_some]
      rw [if_neg (by omega)]
    · have bd := num_day y m d
      have C0 : 0 ≤ cntD (fstD y m w) d ∧ cntD (fstD y m w) d ≤ 6 := by unfold cntD; omega
      have hd := ih (d + 1) (by omega) (by omega) (by omega) k (by omega)
      simp only [spec_l07Nth.l0]; rw [spec_days_eq]; simp only [Option.bind_some]
      rw [if_pos (by omega), spec_number_eq y m d (by omega) (by omega) (by omega) (by omega) (by omega) (by omega) _ (by omega)]; simp only [Option.bind_some]
      rw [spec_weekday_eq _ (by omega) (by omega)]; simp only [Option.bind_some]
      rw [wid (cntD (fstD y m w) d + 1) (by omega) (by omega), wid (d + 1) (by omega) (by omega)]
      by_cases e : (num y m d + 5) % 7 = w
      · have hF : (d - fstD y m w) % 7 = 0 := by unfold fstD; omega
        have c1 : cntD (fstD y m w) (d + 1) = cntD (fstD y m w) d + 1 := by unfold cntD; omega
        have c2 : d = fstD y m w + 7 * cntD (fstD y m w) d := by unfold cntD; omega
        rw [if_pos e]
        rw [c1] at hd
        by_cases n0 : n = 0
        · have o : outD (fstD y m w) n (d + 1) = d := by unfold outD; rw [if_pos n0, c1, if_neg (by omega)]; omega
          rw [o] at hd; rw [if_pos n0]; exact hd
        · rw [if_neg n0]
          by_cases n1 : cntD (fstD y m w) d + 1 = n
          · have o : outD (fstD y m w) n (d + 1) = d := by unfold outD; rw [if_neg n0, c1, if_pos (by omega)]; omega
            rw [o] at hd; rw [if_pos n1]; exact hd
          · have o : outD (fstD y m w) n (d + 1) = outD (fstD y m w) n d := by
              unfold outD; rw [if_neg n0, if_neg n0, c1]
              by_cases n2 : n ≤ cntD (fstD y m w) d
              · rw [if_pos n2, if_pos (by omega)]
              · rw [if_neg n2, if_neg (by omega)]
            rw [o] at hd; rw [if_neg n1]; exact hd
      · have hF : (d - fstD y m w) % 7 ≠ 0 := by unfold fstD; omega
        have c1 : cntD (fstD y m w) (d + 1) = cntD (fstD y m w) d := by unfold cntD; omega
        have o : outD (fstD y m w) n (d + 1) = outD (fstD y m w) n d := by unfold outD; rw [c1]
        rw [c1, o] at hd
        rw [if_neg e]; exact hd

theorem spec_nth_eq (k : Nat) (y m w n : Int) (hm : mon y m) (hw : 0 ≤ w ∧ w ≤ 6) (hn : 0 ≤ n ∧ n ≤ 5) : spec_l07Nth.f (k + 60) y m w n = some (y, m, outD (fstD y m w) n (dim y m + 1)) := by
  have dr := dim_range y m
  have F0 : 1 ≤ fstD y m w ∧ fstD y m w ≤ 7 := by unfold fstD; omega
  have := spec_nth_loop y m w n hm hw hn 31 1 (by omega) (by omega) (by omega) (k + 60) (by omega)
  have c1 : cntD (fstD y m w) 1 = 0 := by unfold cntD; omega
  have o1 : outD (fstD y m w) n 1 = 0 := by
    unfold outD; rw [c1]; by_cases n0 : n = 0
    · rw [if_pos n0, if_pos rfl]
    · rw [if_neg n0, if_neg (by omega)]
  rw [c1, o1] at this
  exact this

theorem out_nth (y m w n : Int) (hn : 0 ≤ n ∧ n ≤ 5) : (if outD (fstD y m w) n (dim y m + 1) = 0 then ((0, 0, 0, 4) : Int × Int × Int × Int) else (y, m, outD (fstD y m w) n (dim y m + 1), 0)) = nthV y m w n := by
  have dr := dim_range y m
  have F0 : 1 ≤ fstD y m w ∧ fstD y m w ≤ 7 := by unfold fstD; omega
  unfold nthV outD cntD
  generalize fstD y m w = F at *
  by_cases n0 : n = 0
  · rw [if_pos n0, if_pos n0, if_neg (show ¬ (dim y m + 1 + 6 - F) / 7 = 0 by omega), if_neg (by omega)]
    congr 3; omega
  · rw [if_neg n0, if_neg n0]
    by_cases c : n ≤ (dim y m + 1 + 6 - F) / 7
    · rw [if_pos c, if_neg (by omega), if_neg (by omega)]
    · rw [if_neg c, if_pos rfl, if_pos (by omega)]

abbrev nthOk (y m w n : Int) : Prop := (mon y m ∧ (0 ≤ w ∧ w ≤ 6)) ∧ (0 ≤ n ∧ n ≤ 5)

theorem impl_NthWeekday_eq (k : Nat) (y m w n : Int) : impl_NthWeekday.f (k + 60) y m w n = some (if nthOk y m w n then nthV y m w n else (0, 0, 0, 2)) := by
  unfold impl_NthWeekday.f
  rw [impl_isMonth_eq, impl_in_eq, impl_in_eq, bind_dec, bind_dec, bind_dec, ite_and, ite_and]
  by_cases h : nthOk y m w n
  · rw [if_pos h, if_pos h, impl_nth_eq (k + 40) y m w n h.1.1 h.1.2 h.2]; rfl
  · rw [if_neg h, if_neg h]

theorem chain3 {α : Type} (p q r : Prop) [Decidable p] [Decidable q] [Decidable r] (J : Bool → Option α) : ((some (decide p)).bind fun t => if t = true then ((some (decide q)).bind fun s => if s = true then ((some (decide r)).bind fun u => J (!u)) else J true) else J true) = J (!decide ((p ∧ q) ∧ r)) := by
  by_cases h : p <;> by_cases h2 : q <;> by_cases h3 : r <;> simp [h, h2, h3]

theorem spec_NthWeekday_eq (k : Nat) (y m w n : Int) : spec_NthWeekday.f (k + 61) y m w n = some (if nthOk y m w n then nthV y m w n else (0, 0, 0, 2)) := by
  unfold spec_NthWeekday.f
  rw [spec_month_eq, spec_in_eq, spec_in_eq, chain3 _ _ _ (fun t => spec_NthWeekday.j0 (k + 61) y m w n t)]
  simp only [spec_NthWeekday.j0]; rw [ite_notdec]
  by_cases h : nthOk y m w n
  · rw [if_pos h, if_pos h, spec_nth_eq k y m w n h.1.1 h.1.2 h.2]; simp only [Option.bind_some]
    rw [← out_nth y m w n h.2, apply_ite some]
  · rw [if_neg h, if_neg h]

/-- A source of draws over the code l: how many of its bytes are used, and its seed. -/
def src (l : List Int) (t s : Int) : Prop := (0 ≤ t ∧ t ≤ (l.length : Int)) ∧ (l.length ≤ 4096 ∧ ∀ x ∈ l, 0 ≤ x ∧ x ≤ 255) ∧ (0 ≤ s ∧ s < 2147483647)

theorem rd_byte (l : List Int) (h : ∀ x ∈ l, 0 ≤ x ∧ x ≤ 255) (i : Int) : 0 ≤ rd l i ∧ rd l i ≤ 255 := by
  unfold rd
  by_cases c : i.toNat < l.length
  · rw [List.getD_eq_getElem?_getD, List.getElem?_eq_getElem c]; exact h _ (List.getElem_mem c)
  · rw [List.getD_eq_getElem?_getD, List.getElem?_eq_none (by omega)]; simp

theorem from_loop (l : List Int) (hl : l.length ≤ 4096) (hb : ∀ x ∈ l, 0 ≤ x ∧ x ≤ 255) : ∀ (d : Nat) (i s : Int), 0 ≤ i → 64 - i ≤ d → 0 ≤ s → s < 2147483647 →
    ∃ s', (0 ≤ s' ∧ s' < 2147483647) ∧ ∀ k, d < k → spec_l01From.l0 k l i l 0 s = some (l, 0, s') := by
  intro d
  induction d with
  | zero =>
    intro i s h0 h1 h2 h3
    refine ⟨s, ⟨h2, h3⟩, fun k hk => ?_⟩
    obtain ⟨k, rfl⟩ : ∃ z, k = z + 1 := ⟨k - 1, by omega⟩
    simp only [spec_l01From.l0]
    by_cases c : i < (l.length : Int)
    · rw [if_pos c, if_neg (by omega)]
    · rw [if_neg c]
  | succ d ih =>
    intro i s h0 h1 h2 h3
    by_cases c : i < (l.length : Int)
    · by_cases c2 : i < 64
      · have hr := rd_byte l hb i
        have e1 : wrap64 (s * 71) = s * 71 := wid _ (by omega) (by omega)
        have e2 : wrap64 (rd l i) = rd l i := wid _ (by omega) (by omega)
        have e3 : wrap64 (s * 71 + rd l i) = s * 71 + rd l i := wid _ (by omega) (by omega)
        have e4 : Int.tmod (s * 71 + rd l i) 2147483647 = (s * 71 + rd l i) % 2147483647 := tmodP _ _ (by omega)
        obtain ⟨s', hs, hk⟩ := ih (i + 1) ((s * 71 + rd l i) % 2147483647) (by omega) (by omega) (by omega) (by omega)
        refine ⟨s', hs, fun k hk' => ?_⟩
        obtain ⟨k, rfl⟩ : ∃ z, k = z + 1 := ⟨k - 1, by omega⟩
        simp only [spec_l01From.l0]
        rw [if_pos c, if_pos c2, if_pos h0, e1, e2, e3, e4, wid (i + 1) (by omega) (by omega)]
        exact hk k (by omega)
      · refine ⟨s, ⟨h2, h3⟩, fun k hk => ?_⟩
        obtain ⟨k, rfl⟩ : ∃ z, k = z + 1 := ⟨k - 1, by omega⟩
        simp only [spec_l01From.l0]; rw [if_pos c, if_neg c2]
    · refine ⟨s, ⟨h2, h3⟩, fun k hk => ?_⟩
      obtain ⟨k, rfl⟩ : ∃ z, k = z + 1 := ⟨k - 1, by omega⟩
      simp only [spec_l01From.l0]; rw [if_neg c]

theorem from_eq (l : List Int) (hl : l.length ≤ 4096) (hb : ∀ x ∈ l, 0 ≤ x ∧ x ≤ 255) : ∃ s, src l 0 s ∧ ∀ k, 64 < k → spec_l01From.f k l = some (l, 0, s) := by
  obtain ⟨s, hs, hk⟩ := from_loop l hl hb 64 0 21013 (by omega) (by omega) (by omega) (by omega)
  exact ⟨s, ⟨⟨by omega, by omega⟩, ⟨hl, hb⟩, hs⟩, hk⟩

theorem next_eq {l : List Int} {t s : Int} (h : src l t s) (n : Int) (hn : n ≤ 1000000000000000000) : ∃ v t' s', spec_l01Next.f l t s n = some (v, t', s') ∧ src l t' s' ∧ 0 ≤ v ∧ (v < n ∨ v = 0 ∧ n ≤ 1) := by
  obtain ⟨⟨t0, t1⟩, ⟨l0, l1⟩, s0, s1⟩ := h
  unfold spec_l01Next.f
  by_cases c : n ≤ 1
  · rw [if_pos c]; exact ⟨0, t, s, rfl, ⟨⟨t0, t1⟩, ⟨l0, l1⟩, s0, s1⟩, by omega, .inr ⟨rfl, c⟩⟩
  · have e1 : wrap64 (s * 48271) = s * 48271 := wid _ (by omega) (by omega)
    have e2 : wrap64 (s * 48271 + 29) = s * 48271 + 29 := wid _ (by omega) (by omega)
    have e3 : Int.tmod (s * 48271 + 29) 2147483647 = (s * 48271 + 29) % 2147483647 := tmodP _ _ (by omega)
    rw [if_neg c, e1, e2, e3]
    generalize hq : (s * 48271 + 29) % 2147483647 = q
    have q0 : 0 ≤ q ∧ q < 2147483647 := by omega
    have e4 : wrap64 (Int.tdiv q 31) = q / 31 := by rw [tdivP _ _ q0.1]; exact wid _ (by omega) (by omega)
    have n0 : ¬ n = 0 := by omega
    rw [e4]
    have hm : ∀ x : Int, 0 ≤ x → 0 ≤ Int.tmod x n ∧ Int.tmod x n < n := by
      intro x hx
      rw [tmodP _ _ hx]; exact ⟨Int.emod_nonneg _ (by omega), Int.emod_lt_of_pos _ (by omega)⟩
    by_cases c1 : t < (l.length : Int)
    · have hr := rd_byte l l1 t
      have e5 : wrap64 (t + 1) = t + 1 := wid _ (by omega) (by omega)
      have e6 : wrap64 (rd l t) = rd l t := wid _ (by omega) (by omega)
      have e7 : wrap64 (q / 31 + rd l t) = q / 31 + rd l t := wid _ (by omega) (by omega)
      have e8 : wrap64 (t + 1 - 1) = t := by rw [show t + 1 - 1 = t by omega]; exact wid _ (by omega) (by omega)
      rw [if_pos c1, if_pos t0, e5, e8, e6, e7, if_neg n0, if_neg n0, if_pos t0, if_pos c1]
      have hs' : src l (t + 1) q := ⟨⟨by omega, by omega⟩, ⟨l0, l1⟩, q0.1, q0.2⟩
      have a1 := hm (rd l t) hr.1
      have a2 := hm (q / 31 + rd l t) (by omega)
      by_cases c2 : n ≤ 256
      · rw [if_pos c2]
        by_cases c3 : Int.tmod (t + 1) 2 = 0
        · rw [if_pos c3]; exact ⟨_, _, _, rfl, hs', a1.1, .inl a1.2⟩
        · rw [if_neg c3]; exact ⟨_, _, _, rfl, hs', a2.1, .inl a2.2⟩
      · rw [if_neg c2]; exact ⟨_, _, _, rfl, hs', a2.1, .inl a2.2⟩
    · have a3 := hm (q / 31) (by omega)
      rw [if_neg c1, if_neg n0]; exact ⟨_, _, _, rfl, ⟨⟨t0, t1⟩, ⟨l0, l1⟩, q0.1, q0.2⟩, a3.1, .inl a3.2⟩

theorem pick_eq {l : List Int} {t s : Int} (h : src l t s) (xs : List Int) (h1 : 0 < xs.length) (h2 : xs.length ≤ 100) : ∃ v t' s', spec_l01Pick.f l t s xs = some (v, t', s') ∧ src l t' s' ∧ v ∈ xs := by
  obtain ⟨v, t', s', e, hs, v0, v1⟩ := next_eq h (xs.length : Int) (by omega)
  unfold spec_l01Pick.f
  rw [e]; simp only [Option.bind_some]
  have hv : v < (xs.length : Int) := by omega
  rw [if_pos v0, if_pos hv]
  refine ⟨_, _, _, rfl, hs, ?_⟩
  unfold rd
  have hlt : v.toNat < xs.length := by omega
  rw [List.getD_eq_getElem?_getD, List.getElem?_eq_getElem hlt]; exact List.getElem_mem hlt

/-- What the laws over a code take of it. -/
theorem code_bytes {l : List Int} (h : ∀ x ∈ l, (Lit.int .u8 x).wf = true) : ∀ x ∈ l, 0 ≤ x ∧ x ≤ 255 := by
  intro x hx
  have := h x hx
  simp [Lit.wf, IntKind.min, IntKind.max, IntKind.signed, IntKind.bits] at this
  omega

theorem big_eq (l : List Int) : laws_big.f l = some (decide ((l.length : Int) > 4096)) := rfl

theorem valid_eq {l : List Int} {t s : Int} (h : src l t s) : ∃ y m d t' s', (∀ k, 300 < k → spec_l07Valid.f k l t s = some (y, m, d, t', s')) ∧ src l t' s' := by
  obtain ⟨v, t1, s1, e1, h1, b1, c1⟩ := next_eq h 72684 (by omega)
  have hn : isN (-36159 + v) := by omega
  obtain ⟨y, m, d, hd, hk⟩ := date_of (-36159 + v) hn
  have b := dat_bounds hd
  refine ⟨y, m, d, t1, s1, fun k hk' => ?_, h1⟩
  unfold spec_l07Valid.f
  rw [spec_year_eq 1901 (by omega) (by omega), spec_year_eq 2100 (by omega) (by omega), yr_1901, yr_2100]; simp only [Option.bind_some]
  rw [show wrap64 (36525 - -36159) = 72684 from wid 72684 (by omega) (by omega), e1]; simp only [Option.bind_some]
  rw [wid _ (by omega) (by omega)]
  unfold spec_l07Date.f
  rw [spec_date_years hd hk 200 1901 (by omega) (by omega) (by omega) _ (by omega)]; rfl

theorem l07Draw_eq {l : List Int} {t s : Int} (h : src l t s) : ∃ y m d t' s', (∀ k, 300 < k → spec_l07Draw.f k l t s = some (y, m, d, t', s')) ∧ src l t' s' := by
  obtain ⟨y, m, d, t1, s1, e1, h1⟩ := valid_eq h
  obtain ⟨v, t2, s2, e2, h2, b2, c2⟩ := next_eq h1 24 (by omega)
  obtain ⟨v3, t3, s3, e3, h3, m3⟩ := pick_eq h2 [1900, 1901, 2099, 2100, 2000] (by simp) (by simp)
  obtain ⟨v4, t4, s4, e4, h4, m4⟩ := pick_eq h2 [0, 1, 2, 12, 13] (by simp) (by simp)
  obtain ⟨v5, t5, s5, e5, h5, m5⟩ := pick_eq h2 [0, 28, 29, 30, 31, 32] (by simp) (by simp)
  by_cases c0 : v = 0
  · refine ⟨v3, m, d, t3, s3, fun k hk => ?_, h3⟩
    unfold spec_l07Draw.f
    rw [e1 k hk]; simp only [Option.bind_some]
    rw [e2]; simp only [Option.bind_some]
    rw [if_pos c0, e3]; rfl
  · by_cases c1 : v = 1
    · refine ⟨y, v4, d, t4, s4, fun k hk => ?_, h4⟩
      unfold spec_l07Draw.f
      rw [e1 k hk]; simp only [Option.bind_some]
      rw [e2]; simp only [Option.bind_some]
      rw [if_neg c0, if_pos c1, e4]; rfl
    · by_cases c2 : v = 2
      · refine ⟨y, m, v5, t5, s5, fun k hk => ?_, h5⟩
        unfold spec_l07Draw.f
        rw [e1 k hk]; simp only [Option.bind_some]
        rw [e2]; simp only [Option.bind_some]
        rw [if_neg c0, if_neg c1, if_pos c2, e5]; rfl
      · refine ⟨y, m, d, t2, s2, fun k hk => ?_, h2⟩
        unfold spec_l07Draw.f
        rw [e1 k hk]; simp only [Option.bind_some]
        rw [e2]; simp only [Option.bind_some]
        rw [if_neg c0, if_neg c1, if_neg c2]

theorem dig1 (u : Nat) (h : u < 10) : Lib.decDigits u = [UInt8.ofNat (48 + u)] := by rw [Lib.decDigits, dif_pos h]

theorem dig2 (u : Nat) (h0 : 10 ≤ u) : Lib.decDigits u = Lib.decDigits (u / 10) ++ [UInt8.ofNat (48 + u % 10)] := by rw [Lib.decDigits, dif_neg (by omega)]

theorem digs_len : ∀ (d u : Nat), u < 10 ^ (d + 1) → (Lib.decDigits u).length ≤ d + 1 := by
  intro d
  induction d with
  | zero => intro u h; rw [dig1 u (by omega)]; simp
  | succ d ih =>
    intro u h
    by_cases c : u < 10
    · rw [dig1 u c]; simp
    · rw [dig2 u (by omega)]
      have := ih (u / 10) (by rw [Nat.pow_succ] at h; omega)
      simp only [List.length_append, List.length_cons, List.length_nil]; omega

theorem nums1 (x : Int) : strOfNums [x] = ⟨#[UInt8.ofNat x.toNat]⟩ := by simp [strOfNums]

theorem nums2 (x y : Int) : strOfNums [x, y] = ⟨#[UInt8.ofNat x.toNat, UInt8.ofNat y.toNat]⟩ := by simp [strOfNums]

theorem ba_append (l m : List UInt8) : (⟨l.toArray⟩ : ByteArray) ++ (⟨m.toArray⟩ : ByteArray) = ⟨(l ++ m).toArray⟩ := by
  apply ByteArray.ext
  simp [ByteArray.data_append]

theorem ba_size (l : List UInt8) : (⟨l.toArray⟩ : ByteArray).size = l.length := by simp [ByteArray.size]

/-- The specification's decimal numeral is the library's. -/
theorem dec_eq : ∀ (d : Nat) (u : Nat), u < 10 ^ (d + 1) → d ≤ 17 → ∀ k, d < k → spec_l01Dec.f k (u : Int) = some ⟨(Lib.decDigits u).toArray⟩ := by
  intro d
  induction d with
  | zero =>
    intro u h _ k hk
    obtain ⟨k, rfl⟩ : ∃ m, k = m + 1 := ⟨k - 1, by omega⟩
    rw [spec_l01Dec.f, if_pos (by omega), nums1, wid (48 + (u : Int)) (by omega) (by omega), dig1 u (by omega), show ((48 + (u : Int)) % 256).toNat = 48 + u by omega]
  | succ d ih =>
    intro u h hd k hk
    obtain ⟨k, rfl⟩ : ∃ m, k = m + 1 := ⟨k - 1, by omega⟩
    have hb : u < 10 ^ 18 := Nat.lt_of_lt_of_le h (Nat.pow_le_pow_right (by omega) (by omega))
    by_cases c : u < 10
    · rw [spec_l01Dec.f, if_pos (by omega), nums1, wid (48 + (u : Int)) (by omega) (by omega), dig1 u c, show ((48 + (u : Int)) % 256).toNat = 48 + u by omega]
    · have e1 : wrap64 (Int.tdiv (u : Int) 10) = ((u / 10 : Nat) : Int) := by rw [tdivP _ _ (by omega), wid _ (by omega) (by omega)]; omega
      have e2 : Int.tmod (u : Int) 10 = ((u % 10 : Nat) : Int) := by rw [tmodP _ _ (by omega)]; omega
      have hlen := digs_len d (u / 10) (by rw [Nat.pow_succ] at h; omega)
      rw [spec_l01Dec.f, if_neg (by omega), e1, ih (u / 10) (by rw [Nat.pow_succ] at h; omega) (by omega) k (by omega), e2, wid (48 + ((u % 10 : Nat) : Int)) (by omega) (by omega)]
      simp only [Option.bind_some]
      rw [nums1, show ((48 + ((u % 10 : Nat) : Int)) % 256).toNat = 48 + u % 10 by omega, if_pos (by rw [ba_size]; show _ + 1 ≤ _; omega), dig2 u (by omega)]
      exact congrArg some (ba_append _ [_])

theorem itoa_nat (u : Nat) : Lib.itoa (u : Int) = Lib.decDigits u := by unfold Lib.itoa; rw [if_neg (by omega)]; simp

theorem decimal_eq (k u : Nat) (h : u < 10 ^ 18) : impl_decimal.f k (u : Int) = some ⟨(Lib.decDigits u).toArray⟩ := by
  unfold impl_decimal.f; rw [if_pos (by omega), if_pos (by omega), itoa_nat]

def twoT (u : Nat) : ByteArray := ⟨#[UInt8.ofNat (48 + u / 10), UInt8.ofNat (48 + u % 10)]⟩

theorem spec_two_text (u : Nat) (h : u < 100) : spec_l03Two.f (u : Int) = some (twoT u) := by
  unfold spec_l03Two.f twoT
  rw [tdivP _ _ (by omega), tmodP _ _ (by omega), wid ((u : Int) / 10) (by omega) (by omega), wid (48 + (u : Int) / 10) (by omega) (by omega), wid (48 + (u : Int) % 10) (by omega) (by omega), nums2,
    show ((48 + (u : Int) / 10) % 256).toNat = 48 + u / 10 by omega, show ((48 + (u : Int) % 10) % 256).toNat = 48 + u % 10 by omega]

theorem padded_eq (k u : Nat) (h : u < 100) : impl_padded.f (k + 2) (u : Int) 2 = some (twoT u) := by
  unfold impl_padded.f twoT
  rw [decimal_eq _ u (by omega)]
  simp only [Option.bind_some]
  by_cases c : u < 10
  · rw [dig1 u c, impl_padded.l0, if_pos (by rw [ba_size]; simp), if_pos (by rw [ba_size]; simp), show (⟨#[48]⟩ : ByteArray) ++ ⟨[UInt8.ofNat (48 + u)].toArray⟩ = ⟨[48, UInt8.ofNat (48 + u)].toArray⟩ from ba_append [48] _, impl_padded.l0, if_neg (by rw [ba_size]; simp), show u / 10 = 0 by omega, show u % 10 = u by omega]
    rfl
  · rw [dig2 u (by omega), dig1 (u / 10) (by omega), impl_padded.l0, if_neg (by rw [ba_size]; simp)]
    rfl

theorem two_size (u : Nat) : (twoT u).size = 2 := rfl

theorem ba_one (x : UInt8) : (⟨#[x]⟩ : ByteArray).size = 1 := rfl

theorem two_arr (u : Nat) : ∃ D : ByteArray, twoT u = D ∧ D.size = 2 := ⟨_, rfl, rfl⟩

theorem padded_eq9 (k u : Nat) (h : u < 100) : ∀ x : Int, x = (u : Int) → impl_padded.f (k + 9) x 2 = some (twoT u) := fun x hx => by
  have := padded_eq (k + 7) u h
  rw [hx]; simpa using this

def datT (y m d : Nat) : ByteArray := (((⟨(Lib.decDigits y).toArray⟩ ++ (⟨#[45]⟩ : ByteArray)) ++ twoT m) ++ (⟨#[45]⟩ : ByteArray)) ++ twoT d

theorem digs_arr4 (u : Nat) (h : u < 10000) : ∃ D : ByteArray, (⟨(Lib.decDigits u).toArray⟩ : ByteArray) = D ∧ D.size ≤ 4 := ⟨_, rfl, by rw [ba_size]; exact digs_len 3 u (by omega)⟩

theorem spec_l07Text_eq (k y m d : Nat) (hy : y < 10000) (hm : m < 100) (hd : d < 100) : spec_l07Text.f (k + 10) (y : Int) (m : Int) (d : Int) = some (datT y m d) := by
  have h1 := dec_eq 3 y (by omega) (by omega) (k + 10) (by omega)
  have h2 := spec_two_text m hm
  have h3 := spec_two_text d hd
  unfold spec_l07Text.f datT
  obtain ⟨D, eD, zD⟩ := digs_arr4 y hy
  obtain ⟨M, eM, zM⟩ := two_arr m
  obtain ⟨S, eS, zS⟩ := two_arr d
  rw [eD] at h1 ⊢; rw [eM] at h2 ⊢; rw [eS] at h3 ⊢
  simp only [h1, h2, h3, Option.bind_some, ByteArray.size_append, ba_one, zM, zS]
  rw [if_pos (show D.size + 1 ≤ 9223372036854775807 by omega), if_pos (show D.size + 1 + 2 ≤ 9223372036854775807 by omega), if_pos (show D.size + 1 + 2 + 1 ≤ 9223372036854775807 by omega), if_pos (show D.size + 1 + 2 + 1 + 2 ≤ 9223372036854775807 by omega)]

theorem impl_DateText_yes (k y m d : Nat) (hy : y < 10000) (hm : m < 100) (hd : d < 100) (hD : dat (y : Int) (m : Int) (d : Int)) : impl_DateText.f (k + 9) (y : Int) (m : Int) (d : Int) = some (datT y m d, 0) := by
  have h1 := decimal_eq (k + 9) y (by omega)
  have h2 := padded_eq9 k m hm _ rfl
  have h3 := padded_eq9 k d hd _ rfl
  have h0 := impl_IsDate_eq (k + 8) (y : Int) (m : Int) (d : Int)
  rw [show k + 8 + 1 = k + 9 from rfl, decide_eq_true hD] at h0
  unfold impl_DateText.f datT
  obtain ⟨D, eD, zD⟩ := digs_arr4 y hy
  obtain ⟨M, eM, zM⟩ := two_arr m
  obtain ⟨S, eS, zS⟩ := two_arr d
  rw [eD] at h1 ⊢; rw [eM] at h2 ⊢; rw [eS] at h3 ⊢
  simp only [h0, h1, h2, h3, Option.bind_some, if_true, ByteArray.size_append, ba_one, zM, zS]
  rw [if_pos (show D.size + 1 ≤ 9223372036854775807 by omega), if_pos (show D.size + 1 + 2 ≤ 9223372036854775807 by omega), if_pos (show D.size + 1 + 2 + 1 ≤ 9223372036854775807 by omega), if_pos (show D.size + 1 + 2 + 1 + 2 ≤ 9223372036854775807 by omega)]

def valD (a : Nat) (l : List UInt8) : Nat := l.foldl (fun x c => x * 10 + (c.toNat - 48)) a

theorem valD_nil (a : Nat) : valD a [] = a := rfl

theorem valD_cons (a : Nat) (c : UInt8) (r : List UInt8) : valD a (c :: r) = valD (a * 10 + (c.toNat - 48)) r := by unfold valD; rw [List.foldl_cons]

def isD (c : UInt8) : Prop := 48 ≤ c.toNat ∧ c.toNat ≤ 57

theorem valD_append (l m : List UInt8) (a : Nat) : valD a (l ++ m) = valD (valD a l) m := List.foldl_append

theorem valD_ge (l : List UInt8) : ∀ a : Nat, a ≤ valD a l := by
  induction l with
  | nil => intro a; exact Nat.le_refl _
  | cons c r ih =>
    intro a
    rw [valD_cons]
    have := ih (a * 10 + (c.toNat - 48))
    omega

theorem u8_dig (u : Nat) (h : u < 10) : (UInt8.ofNat (48 + u)).toNat = 48 + u := by
  rw [UInt8.toNat_ofNat']; omega

theorem digs_isD : ∀ (d u : Nat), u < 10 ^ (d + 1) → (∀ c ∈ Lib.decDigits u, isD c) ∧ valD 0 (Lib.decDigits u) = u ∧ 0 < (Lib.decDigits u).length := by
  intro d
  induction d with
  | zero =>
    intro u h
    rw [dig1 u (by omega)]
    have := u8_dig u (by omega)
    refine ⟨?_, ?_, by simp⟩
    · intro c hc
      rw [List.mem_singleton] at hc
      subst hc
      unfold isD; omega
    · rw [valD_cons, valD_nil]; omega
  | succ d ih =>
    intro u h
    by_cases c : u < 10
    · rw [dig1 u c]
      have := u8_dig u c
      refine ⟨?_, ?_, by simp⟩
      · intro c hc
        rw [List.mem_singleton] at hc
        subst hc
        unfold isD; omega
      · rw [valD_cons, valD_nil]; omega
    · rw [dig2 u (by omega)]
      obtain ⟨h1, h2, h3⟩ := ih (u / 10) (by rw [Nat.pow_succ] at h; omega)
      have := u8_dig (u % 10) (by omega)
      refine ⟨?_, ?_, by simp⟩
      · intro c hc
        rw [List.mem_append, List.mem_singleton] at hc
        rcases hc with hc | hc
        · exact h1 c hc
        · subst hc; unfold isD; omega
      · rw [valD_append, h2, valD_cons, valD_nil]; omega

theorem parse_digs (M : Nat) (l : List UInt8) : ∀ (a : Nat), (∀ c ∈ l, isD c) → valD a l ≤ M → valD a l < 10000000000000000000 → Lib.parseUintM M a l = .ok (valD a l) := by
  induction l with
  | nil => intro a _ _ _; rfl
  | cons c r ih =>
    intro a hd hM hT
    have hc := hd c (by simp)
    unfold isD at hc
    rw [valD_cons] at hM hT ⊢
    have hg := valD_ge r (a * 10 + (c.toNat - 48))
    rw [Lib.parseUintM, if_pos hc, if_neg (by omega), if_neg (by omega)]
    exact ih _ (fun x hx => hd x (by simp [hx])) hM hT

theorem parse_dec (u : Nat) (h : u < 1000000000000000000) : Lib.parseUintB 64 (Lib.decDigits u) = .ok u := by
  obtain ⟨h1, h2, h3⟩ := digs_isD 17 u (by omega)
  unfold Lib.parseUintB
  rw [if_neg (by intro e; rw [e] at h3; simp at h3), parse_digs _ _ 0 h1 (by rw [h2]; omega) (by rw [h2]; omega), h2]

theorem parse_itoa (v : Int) (h0 : -1000000000000000000 < v) (h1 : v < 1000000000000000000) : Lib.parseIntB 64 (Lib.itoa v) = .ok v := by
  have hp := parse_dec v.natAbs (by omega)
  unfold Lib.itoa
  by_cases c : v < 0
  · rw [if_pos c, Lib.parseIntB_minus, hp, Lib.signedC, if_neg (by omega)]
    congr 1; omega
  · rw [if_neg c, show v.toNat = v.natAbs by omega]
    obtain ⟨d1, d2, d3⟩ := digs_isD 17 v.natAbs (by omega)
    cases e : Lib.decDigits v.natAbs with
    | nil => rw [e] at d3; simp at d3
    | cons b r =>
      rw [e] at d1 hp
      have hb := d1 b (by simp)
      unfold isD at hb
      rw [Lib.parseIntB_plain 64 b r (by omega) (by omega), hp, Lib.signlessC, if_neg (by omega)]
      congr 1; omega

def encI (x : Int) : ByteArray := ⟨(Lib.itoa x).toArray⟩

theorem ba_eq {s t : ByteArray} (h : (s.toList == t.toList) = true) : s = t := by
  have h := beq_iff_eq.1 h
  rw [ByteArray.toList_eq, ByteArray.toList_eq] at h
  obtain ⟨⟨a⟩⟩ := s
  obtain ⟨⟨b⟩⟩ := t
  simp at h
  rw [h]

theorem ba_beq (s : ByteArray) : (s.toList == s.toList) = true := beq_self_eq_true _

theorem itoa_len19 (v : Int) (h0 : -1000000000000000000 < v) (h1 : v < 1000000000000000000) : (Lib.itoa v).length ≤ 19 := by
  have := digs_len 17 v.natAbs (by omega)
  unfold Lib.itoa
  split
  · simp only [List.length_cons]; omega
  · rw [show v.toNat = v.natAbs by omega]; omega

/-- impl: total, and what it accepts is canonical. -/
theorem readDec_total (k : Nat) (w : ByteArray) : ∃ r, impl_readDecimal.f k w = some r ∧ (r.2 = true → w = encI r.1) := by
  unfold impl_readDecimal.f
  by_cases c : w.size > 19
  · exact ⟨_, by rw [if_pos c], fun h => absurd h (by simp)⟩
  · rw [if_neg c]
    cases hp : Lib.parseIntB 64 w.data.toList
    · rename_i v
      have hb := Lib.parseIntB_bounds hp
      have e : (2 : Nat) ^ (64 - 1) = 9223372036854775808 := by decide
      rw [e] at hb
      have hd : impl_decimal.f k v = some (encI v) := by unfold impl_decimal.f encI; rw [if_pos (by omega), if_pos (by omega)]
      refine ⟨(v, (encI v).toList == w.toList), ?_, fun h => (ba_eq h).symm⟩
      simp only [hd, Option.bind_some]
    · exact ⟨_, rfl, fun h => absurd h (by simp)⟩
    · exact ⟨_, rfl, fun h => absurd h (by simp)⟩

theorem readDec_of (k : Nat) (v : Int) (h0 : -1000000000000000000 < v) (h1 : v < 1000000000000000000) : impl_readDecimal.f k (encI v) = some (v, true) := by
  have hl := itoa_len19 v h0 h1
  have hp := parse_itoa v h0 h1
  have hd : impl_decimal.f k v = some (encI v) := by unfold impl_decimal.f encI; rw [if_pos (by omega), if_pos (by omega)]
  unfold impl_readDecimal.f
  rw [if_neg (by unfold encI; rw [ba_size]; omega)]
  have e : (encI v).data.toList = Lib.itoa v := by unfold encI; simp
  rw [e, hp]
  simp only [hd, Option.bind_some, ba_beq]
/-! spec -/

theorem bt_nat (w : ByteArray) (i : Nat) (h : i < w.size) : bt w (i : Int) = (w.data.toList[i]'(by rw [data_length]; exact h)).toNat := by
  unfold bt
  rw [dif_pos (by simpa using h)]
  rfl

def mkB (l : List UInt8) : ByteArray := ⟨l.toArray⟩

theorem data_mkB (l : List UInt8) : (mkB l).data.toList = l := by simp [mkB]

/-- A text cut at every occurrence of a byte; cur: the piece that has begun. -/
def cutAt (c : UInt8) : List UInt8 → List UInt8 → List (List UInt8)
  | cur, [] => [cur]
  | cur, b :: r => if b = c then cur :: cutAt c [] r else cutAt c (cur ++ [b]) r

theorem pre_one (b c : UInt8) (l : List UInt8) : List.isPrefixOf [c] (b :: l) = (c == b) := by simp [List.isPrefixOf]

theorem cutAt_index (c : UInt8) : ∀ (l cur : List UInt8),
    (Lib.index l [c] = -1 ∧ cutAt c cur l = [cur ++ l] ∧ l.count c = 0) ∨ (∃ i : Nat, Lib.index l [c] = (i : Int) ∧ cutAt c cur l = (cur ++ l.take i) :: cutAt c [] (l.drop (i + 1)) ∧ l.count c = (l.drop (i + 1)).count c + 1)
  | [], cur => .inl ⟨rfl, by simp [cutAt], rfl⟩
  | b :: r, cur => by
    by_cases h : b = c
    · subst h
      refine .inr ⟨0, ?_, ?_, ?_⟩
      · rw [Lib.index, pre_one, if_pos (beq_self_eq_true b)]; rfl
      · rw [cutAt, if_pos rfl]; simp
      · simp
    · have hb : (c == b) = false := beq_eq_false_iff_ne.2 (fun e => h e.symm)
      rcases cutAt_index c r (cur ++ [b]) with ⟨h1, h2, h3⟩ | ⟨i, h1, h2, h3⟩
      · refine .inl ⟨?_, ?_, ?_⟩
        · rw [Lib.index, pre_one, hb, if_neg (by simp), h1]; rfl
        · rw [cutAt, if_neg h, h2]; simp
        · rw [List.count_cons_of_ne h, h3]
      · refine .inr ⟨i + 1, ?_, ?_, ?_⟩
        · rw [Lib.index, pre_one, hb, if_neg (by simp), h1, if_neg (by simp)]; rfl
        · rw [cutAt, if_neg h, h2]; simp
        · rw [List.count_cons_of_ne h, h3]; simp

theorem splitK_cut (c : UInt8) : ∀ (k : Nat) (l : List UInt8), l.count c ≤ k → Lib.splitK [c] 0 k l = cutAt c [] l := by
  intro k
  induction k with
  | zero =>
    intro l h
    rcases cutAt_index c l [] with ⟨h1, h2, h3⟩ | ⟨i, h1, h2, h3⟩
    · rw [h2]; rfl
    · omega
  | succ k ih =>
    intro l h
    rcases cutAt_index c l [] with ⟨h1, h2, h3⟩ | ⟨i, h1, h2, h3⟩
    · rw [Lib.splitK, h1, h2]; rfl
    · rw [Lib.splitK, h1, h2, if_neg (by simp), ih _ (by simp; omega)]
      simp

theorem splitB_cut (c : UInt8) (s : ByteArray) : Lib.splitB (⟨#[c]⟩ : ByteArray) 0 (Lib.countB s (⟨#[c]⟩ : ByteArray)) s = (cutAt c [] s.data.toList).map mkB := by
  have h := Lib.splitB_data (⟨#[c]⟩ : ByteArray) 0 (Lib.countB s (⟨#[c]⟩ : ByteArray)) s
  rw [show (⟨#[c]⟩ : ByteArray).data.toList = [c] from rfl, splitK_cut c _ _ (by
    rw [show Lib.countB s (⟨#[c]⟩ : ByteArray) = Lib.count s.data.toList [c] from rfl, Lib.count_one]; exact Nat.le_refl _)] at h
  rw [← h, List.map_map]
  conv => lhs; rw [← List.map_id (Lib.splitB _ _ _ _)]
  exact List.map_congr_left fun x _ => rfl

def o8 (n : Nat) : UInt8 := UInt8.ofNat (48 + n)

theorem o8_nat (n : Nat) (h : n < 10) : (o8 n).toNat = 48 + n := u8_dig n h

theorem o8_ne (n : Nat) (c : UInt8) (h : n < 10) (hc : c.toNat < 48 ∨ 57 < c.toNat) : o8 n ≠ c := fun e => by
  have := o8_nat n h
  rw [e] at this; omega

theorem dig4 (Y : Nat) (h0 : 1000 ≤ Y) (h1 : Y < 10000) : Lib.decDigits Y = [o8 (Y / 1000), o8 (Y / 100 % 10), o8 (Y / 10 % 10), o8 (Y % 10)] := by
  rw [dig2 Y (by omega), dig2 (Y / 10) (by omega), dig2 (Y / 10 / 10) (by omega), dig1 (Y / 10 / 10 / 10) (by omega), show Y / 10 / 10 / 10 = Y / 1000 by omega, show Y / 10 / 10 % 10 = Y / 100 % 10 by omega]
  rfl

def dlist (Y M D : Nat) : List UInt8 := [o8 (Y / 1000), o8 (Y / 100 % 10), o8 (Y / 10 % 10), o8 (Y % 10), 45, o8 (M / 10), o8 (M % 10), 45, o8 (D / 10), o8 (D % 10)]

theorem datT_list (Y M D : Nat) (h0 : 1000 ≤ Y) (h1 : Y < 10000) : datT Y M D = mkB (dlist Y M D) := by
  unfold datT mkB dlist
  rw [dig4 Y h0 h1]
  rfl

theorem datT_data (Y M D : Nat) (h0 : 1000 ≤ Y) (h1 : Y < 10000) : (datT Y M D).data.toList = dlist Y M D := by rw [datT_list Y M D h0 h1, data_mkB]

theorem datT_size (Y M D : Nat) (h0 : 1000 ≤ Y) (h1 : Y < 10000) : (datT Y M D).size = 10 := by rw [← data_length, datT_data Y M D h0 h1]; rfl

theorem dat_nat4 {y m d : Int} (h : dat y m d) : ∃ Y M D : Nat, y = Y ∧ m = M ∧ d = D ∧ 1000 ≤ Y ∧ Y < 10000 ∧ M < 100 ∧ D < 100 := by
  have hb := dat_bounds h
  exact ⟨y.toNat, m.toNat, d.toNat, by omega, by omega, by omega, by omega, by omega, by omega, by omega⟩

/-- What both readings answer. -/
def dateAns (s : ByteArray) (r : Int × Int × Int × Int) : Prop :=
  r = (0, 0, 0, 6) ∨ ∃ Y M D : Nat, r = ((Y : Int), (M : Int), (D : Int), 0) ∧ dat (Y : Int) (M : Int) (D : Int) ∧ s = datT Y M D

theorem sd_step (s : ByteArray) (hs : s.size = 10) (k i : Nat) (x : Int) (hi : i < 10) (h4 : i ≠ 4) (h7 : i ≠ 7) (h0 : -1000000000000 ≤ x) (h1 : x ≤ 1000000000000) :
    spec_ReadDate.l0 (k + 1) s x (i : Int) = spec_ReadDate.l0 k s (10 * x + bt s (i : Int) - 48) ((i + 1 : Nat) : Int) := by
  have hr := bt_range s (i : Int)
  rw [spec_ReadDate.l0, if_pos (by omega), if_neg (by omega), if_neg (by omega), if_pos (by omega), if_pos (by omega), wid (10 * x) (by omega) (by omega), wid (bt s (i : Int)) (by omega) (by omega), wid (10 * x + bt s (i : Int)) (by omega) (by omega), wid (10 * x + bt s (i : Int) - 48) (by omega) (by omega), wid ((i : Int) + 1) (by omega) (by omega)]
  rfl

theorem sd_skip (s : ByteArray) (k i : Nat) (x : Int) (h : i = 4 ∨ i = 7) : spec_ReadDate.l0 (k + 1) s x (i : Int) = spec_ReadDate.l0 k s x ((i + 1 : Nat) : Int) := by
  rw [spec_ReadDate.l0, if_pos (by omega)]
  rcases h with rfl | rfl
  · rw [if_pos (by omega), wid _ (by omega) (by omega)]; rfl
  · rw [if_neg (by omega), if_pos (by omega), wid _ (by omega) (by omega)]; rfl

theorem sd_end (s : ByteArray) (k : Nat) (x : Int) : ∃ r, spec_ReadDate.l0 (k + 11) s x ((10 : Nat) : Int) = some r ∧ dateAns s r := by
  rw [spec_ReadDate.l0, if_neg (by omega), spec_IsDate_eq]
  generalize wrap64 (Int.tdiv x 10000) = y
  generalize Int.tmod (wrap64 (Int.tdiv x 100)) 100 = m
  generalize Int.tmod x 100 = d
  simp only [Option.bind_some]
  by_cases c : dat y m d
  · obtain ⟨Y, M, D, rfl, rfl, rfl, hY0, hY, hM, hD⟩ := dat_nat4 c
    rw [if_pos (decide_eq_true c), spec_l07Text_eq k Y M D hY hM hD]
    simp only [Option.bind_some]
    by_cases e : (datT Y M D).toList = s.toList
    · rw [if_pos e]
      exact ⟨_, rfl, .inr ⟨Y, M, D, rfl, c, (ba_eq (beq_iff_eq.2 e)).symm⟩⟩
    · rw [if_neg e]
      exact ⟨_, rfl, .inl rfl⟩
  · rw [if_neg (by simpa using c)]
    exact ⟨_, rfl, .inl rfl⟩

theorem sd_total (s : ByteArray) (hs : s.size = 10) : ∀ (t i : Nat) (x : Int) (b : Int), i + t = 10 → -b ≤ x → x ≤ b → 0 ≤ b → (b + 30) * 10 ^ t ≤ 1000000000000 → ∀ k, ∃ r, spec_ReadDate.l0 (k + t + 11) s x (i : Int) = some r ∧ dateAns s r := by
  intro t
  induction t with
  | zero =>
    intro i x b hi _ _ _ _ k
    have : i = 10 := by omega
    subst this
    exact sd_end s k x
  | succ t ih =>
    intro i x b hi h0 h1 hb hB k
    have hr := bt_range s (i : Int)
    have hp : (1 : Int) ≤ 10 ^ t := by
      have : (0 : Int) < 10 ^ t := Int.pow_pos (by omega)
      omega
    have hs' : (10 : Int) ^ (t + 1) = 10 ^ t * 10 := Int.pow_succ 10 t
    rw [hs'] at hB
    have hb2 : (10 * b + 207 + 30) * 10 ^ t ≤ 1000000000000 := by
      have e : (10 * b + 207 + 30) * 10 ^ t ≤ (b + 30) * (10 ^ t * 10) := by
        rw [show (b + 30) * ((10 : Int) ^ t * 10) = ((b + 30) * 10) * 10 ^ t by rw [Int.mul_comm ((10 : Int) ^ t) 10, ← Int.mul_assoc]]
        exact Int.mul_le_mul_of_nonneg_right (by omega) (by omega)
      omega
    have hx : b ≤ 1000000000000 := by
      have e : b * 1 ≤ (b + 30) * (10 ^ t * 10) := Int.mul_le_mul (by omega) (by omega) (by omega) (by omega)
      omega
    rw [show k + (t + 1) + 11 = (k + t + 11) + 1 by omega]
    by_cases c : i = 4 ∨ i = 7
    · rw [sd_skip s _ i x c]
      exact ih (i + 1) x (10 * b + 207) (by omega) (by omega) (by omega) (by omega) hb2 k
    · rw [sd_step s hs _ i x (by omega) (by omega) (by omega) (by omega) (by omega)]
      exact ih (i + 1) _ (10 * b + 207) (by omega) (by omega) (by omega) (by omega) hb2 k

theorem spec_ReadDate_total (s : ByteArray) (k : Nat) : ∃ r, spec_ReadDate.f (k + 21) s = some r ∧ dateAns s r := by
  unfold spec_ReadDate.f
  by_cases c : (s.size : Int) = 10
  · rw [if_pos c]
    exact sd_total s (by omega) 10 0 0 0 (by omega) (by omega) (by omega) (by omega) (by decide) k
  · rw [if_neg c]
    exact ⟨_, rfl, .inl rfl⟩

theorem spec_ReadDate_of (Y M D : Nat) (h : dat (Y : Int) (M : Int) (D : Int)) (k : Nat) : spec_ReadDate.f (k + 21) (datT Y M D) = some ((Y : Int), (M : Int), (D : Int), 0) := by
  have hb := dat_bounds h
  have hY0 : 1000 ≤ Y := by omega
  have hY1 : Y < 10000 := by omega
  have hz := datT_size Y M D hY0 hY1
  have hd := datT_data Y M D hY0 hY1
  have ht := spec_l07Text_eq k Y M D (by omega) (by omega) (by omega)
  have g : ∀ (i : Nat) (n : Nat), n < 10 → (dlist Y M D)[i]? = some (o8 n) → bt (datT Y M D) (i : Int) = 48 + (n : Int) := fun i n hn e => by
    obtain ⟨hi, e⟩ := List.getElem?_eq_some_iff.1 e
    have hi' : i < (datT Y M D).size := by rw [hz]; exact hi
    rw [bt_nat _ i hi']
    have : (datT Y M D).data.toList[i]'(by rw [data_length]; exact hi') = o8 n := by
      rw [← e]
      congr 1
    rw [this, o8_nat n hn]; omega
  generalize datT Y M D = s at hz g ht
  unfold spec_ReadDate.f
  rw [if_pos (by omega)]
  have s0 := sd_step s hz (k + 20) 0 0 (by omega) (by omega) (by omega) (by omega) (by omega)
  rw [g 0 (Y / 1000) (by omega) rfl] at s0
  have s1 := sd_step s hz (k + 19) 1 (10 * 0 + (48 + ((Y / 1000 : Nat) : Int)) - 48) (by omega) (by omega) (by omega) (by omega) (by omega)
  rw [g 1 (Y / 100 % 10) (by omega) rfl] at s1
  rw [show ((0 : Nat) : Int) = 0 from rfl] at s0
  rw [s0, s1]
  rw [sd_step s hz (k + 18) 2 _ (by omega) (by omega) (by omega) (by omega) (by omega), g 2 (Y / 10 % 10) (by omega) rfl]
  rw [sd_step s hz (k + 17) 3 _ (by omega) (by omega) (by omega) (by omega) (by omega), g 3 (Y % 10) (by omega) rfl]
  rw [sd_skip s (k + 16) 4 _ (by omega)]
  rw [sd_step s hz (k + 15) 5 _ (by omega) (by omega) (by omega) (by omega) (by omega), g 5 (M / 10) (by omega) rfl]
  rw [sd_step s hz (k + 14) 6 _ (by omega) (by omega) (by omega) (by omega) (by omega), g 6 (M % 10) (by omega) rfl]
  rw [sd_skip s (k + 13) 7 _ (by omega)]
  rw [sd_step s hz (k + 12) 8 _ (by omega) (by omega) (by omega) (by omega) (by omega), g 8 (D / 10) (by omega) rfl]
  rw [sd_step s hz (k + 11) 9 _ (by omega) (by omega) (by omega) (by omega) (by omega), g 9 (D % 10) (by omega) rfl]
  generalize hX : 10 * (10 * (10 * (10 * (10 * (10 * (10 * (10 * 0 + (48 + ((Y / 1000 : Nat) : Int)) - 48) + (48 + ((Y / 100 % 10 : Nat) : Int)) - 48) + (48 + ((Y / 10 % 10 : Nat) : Int)) - 48) + (48 + ((Y % 10 : Nat) : Int)) - 48) + (48 + ((M / 10 : Nat) : Int)) - 48) + (48 + ((M % 10 : Nat) : Int)) - 48) + (48 + ((D / 10 : Nat) : Int)) - 48) + (48 + ((D % 10 : Nat) : Int)) - 48 = X
  have hX2 : X = 10000 * (Y : Int) + 100 * (M : Int) + (D : Int) := by omega
  rw [spec_ReadDate.l0, if_neg (by omega), tdivP _ _ (by omega), tdivP _ _ (by omega), wid (X / 10000) (by omega) (by omega), wid (X / 100) (by omega) (by omega), tmodP _ _ (by omega), tmodP _ _ (by omega), show X / 10000 = (Y : Int) by omega, show X / 100 % 100 = (M : Int) by omega, show X % 100 = (D : Int) by omega, spec_IsDate_eq, decide_eq_true h]
  simp only [Option.bind_some, if_true]
  rw [ht]
  simp
/-! impl -/

theorem two_val (u : Nat) (h : u < 100) : impl_two.f (twoT u) = some (u : Int) := by
  unfold impl_two.f
  have h0 := bt_nat (twoT u) 0 (by rw [two_size]; omega)
  have h1 := bt_nat (twoT u) 1 (by rw [two_size]; omega)
  have e0 : bt (twoT u) 0 = 48 + ((u / 10 : Nat) : Int) := by
    rw [show (0 : Int) = ((0 : Nat) : Int) from rfl, h0]
    have := o8_nat (u / 10) (by omega)
    show (((o8 (u / 10)).toNat : Nat) : Int) = _
    omega
  have e1 : bt (twoT u) 1 = 48 + ((u % 10 : Nat) : Int) := by
    rw [show (1 : Int) = ((1 : Nat) : Int) from rfl, h1]
    have := o8_nat (u % 10) (by omega)
    show (((o8 (u % 10)).toNat : Nat) : Int) = _
    omega
  rw [if_pos (by rw [two_size]; omega), e0, e1, wid (48 + ((u / 10 : Nat) : Int)) (by omega) (by omega), wid (48 + ((u / 10 : Nat) : Int) - 48) (by omega) (by omega), wid (10 * _) (by omega) (by omega), wid (48 + ((u % 10 : Nat) : Int)) (by omega) (by omega), wid (10 * _ + _) (by omega) (by omega), wid _ (by omega) (by omega)]
  congr 1; omega

theorem impl_two_some (w : ByteArray) (h : (w.size : Int) = 2) : ∃ v, impl_two.f w = some v := by
  unfold impl_two.f
  exact ⟨_, by rw [if_pos (by omega)]⟩

theorem impl_DateText_all (k : Nat) (y m d : Int) : ∃ r, impl_DateText.f (k + 9) y m d = some r ∧ (r.2 = 0 → ∃ Y M D : Nat, y = Y ∧ m = M ∧ d = D ∧ dat y m d ∧ r.1 = datT Y M D) := by
  by_cases c : dat y m d
  · obtain ⟨Y, M, D, rfl, rfl, rfl, hY0, hY, hM, hD⟩ := dat_nat4 c
    exact ⟨_, impl_DateText_yes k Y M D hY hM hD c, fun _ => ⟨Y, M, D, rfl, rfl, rfl, c, rfl⟩⟩
  · have h0 := impl_IsDate_eq (k + 8) y m d
    rw [show k + 8 + 1 = k + 9 from rfl, decide_eq_false c] at h0
    unfold impl_DateText.f
    rw [h0]
    exact ⟨_, rfl, fun h => absurd h (by simp)⟩

theorem impl_ReadDate_total (s : ByteArray) (hs : s.size ≤ 1048576) (k : Nat) : ∃ r, impl_ReadDate.f (k + 9) s = some r ∧ dateAns s r := by
  unfold impl_ReadDate.f
  rw [if_pos (by omega)]
  split
  · rename_i a b c _
    unfold impl_ReadDate.p
    by_cases c1 : (b.size : Int) = 2
    · rw [if_pos c1]
      by_cases c2 : (c.size : Int) = 2
      · rw [if_pos c2]
        obtain ⟨⟨y, ok⟩, e1, q1⟩ := readDec_total (k + 9) a
        obtain ⟨m, e2⟩ := impl_two_some b c1
        obtain ⟨d, e3⟩ := impl_two_some c c2
        obtain ⟨⟨t, code⟩, e4, q4⟩ := impl_DateText_all k y m d
        rw [e1]
        simp only [Option.bind_some]
        rw [e2]
        simp only [Option.bind_some]
        rw [e3]
        simp only [Option.bind_some]
        rw [e4]
        simp only [Option.bind_some]
        by_cases c5 : ok = true
        · rw [if_pos c5]
          by_cases c6 : code = 0
          · rw [if_pos c6]
            by_cases c7 : t.toList = s.toList
            · rw [if_pos c7]
              obtain ⟨Y, M, D, rfl, rfl, rfl, hD, hT⟩ := q4 c6
              refine ⟨_, rfl, .inr ⟨Y, M, D, rfl, hD, ?_⟩⟩
              have e : t = s := ba_eq (beq_iff_eq.2 c7)
              rw [← e]; exact hT
            · rw [if_neg c7]; exact ⟨_, rfl, .inl rfl⟩
          · rw [if_neg c6]; exact ⟨_, rfl, .inl rfl⟩
        · rw [if_neg c5]; exact ⟨_, rfl, .inl rfl⟩
      · rw [if_neg c2]; exact ⟨_, rfl, .inl rfl⟩
    · rw [if_neg c1]; exact ⟨_, rfl, .inl rfl⟩
  · exact ⟨_, rfl, .inl rfl⟩

theorem cut_date (Y M D : Nat) (hY : Y < 10000) (hM : M < 100) (hD : D < 100) : cutAt 45 [] (dlist Y M D) = [[o8 (Y / 1000), o8 (Y / 100 % 10), o8 (Y / 10 % 10), o8 (Y % 10)], [o8 (M / 10), o8 (M % 10)], [o8 (D / 10), o8 (D % 10)]] := by
  have hn : ∀ n, n < 10 → o8 n ≠ 45 := fun n h => o8_ne n 45 h (.inl (by decide))
  unfold dlist
  simp only [cutAt, if_neg (hn (Y / 1000) (by omega)), if_neg (hn (Y / 100 % 10) (by omega)), if_neg (hn (Y / 10 % 10) (by omega)), if_neg (hn (Y % 10) (by omega)), if_neg (hn (M / 10) (by omega)), if_neg (hn (M % 10) (by omega)), if_neg (hn (D / 10) (by omega)), if_neg (hn (D % 10) (by omega)), if_true, List.nil_append, List.cons_append]

theorem date_p_of (k : Nat) (s a b c : ByteArray) (y m d : Int) (hb : (b.size : Int) = 2) (hc : (c.size : Int) = 2) (h1 : impl_readDecimal.f k a = some (y, true)) (h2 : impl_two.f b = some m) (h3 : impl_two.f c = some d) (h4 : impl_DateText.f k y m d = some (s, 0)) : impl_ReadDate.p k s a b c = some (y, m, d, 0) := by
  unfold impl_ReadDate.p
  rw [if_pos hb, if_pos hc, h1]
  simp only [Option.bind_some]
  rw [h2]
  simp only [Option.bind_some]
  rw [h3]
  simp only [Option.bind_some]
  rw [h4]
  simp

theorem impl_ReadDate_of (Y M D : Nat) (h : dat (Y : Int) (M : Int) (D : Int)) (k : Nat) : impl_ReadDate.f (k + 9) (datT Y M D) = some ((Y : Int), (M : Int), (D : Int), 0) := by
  have hb := dat_bounds h
  have hY0 : 1000 ≤ Y := by omega
  have hY1 : Y < 10000 := by omega
  have hz := datT_size Y M D hY0 hY1
  have hd := datT_data Y M D hY0 hY1
  have hsp := splitB_cut 45 (datT Y M D)
  rw [hd, cut_date Y M D hY1 (by omega) (by omega)] at hsp
  have e0 : mkB [o8 (Y / 1000), o8 (Y / 100 % 10), o8 (Y / 10 % 10), o8 (Y % 10)] = encI (Y : Int) := by unfold encI mkB; rw [itoa_nat, dig4 Y hY0 hY1]
  have e1 : mkB [o8 (M / 10), o8 (M % 10)] = twoT M := rfl
  have e2 : mkB [o8 (D / 10), o8 (D % 10)] = twoT D := rfl
  simp only [List.map_cons, List.map_nil, e0, e1, e2] at hsp
  have ht := impl_DateText_yes k Y M D (by omega) (by omega) (by omega) h
  unfold impl_ReadDate.f
  rw [if_pos (by omega), hsp]
  simp only
  exact date_p_of (k + 9) _ _ _ _ _ _ _ (by rw [two_size]; omega) (by rw [two_size]; omega) (readDec_of (k + 9) (Y : Int) (by omega) (by omega)) (two_val M (by omega)) (two_val D (by omega)) ht

theorem date_read_same (s : ByteArray) (hs : s.size ≤ 1048576) (k j : Nat) : ∃ r, spec_ReadDate.f (k + 21) s = some r ∧ impl_ReadDate.f (j + 9) s = some r ∧ dateAns s r := by
  obtain ⟨r, e1, a1⟩ := spec_ReadDate_total s k
  obtain ⟨q, e2, a2⟩ := impl_ReadDate_total s hs j
  refine ⟨r, e1, ?_, a1⟩
  rcases a1 with rfl | ⟨Y, M, D, rfl, hD, rfl⟩
  · rcases a2 with rfl | ⟨Y, M, D, rfl, hD, rfl⟩
    · exact e2
    · have := spec_ReadDate_of Y M D hD k
      rw [this] at e1
      simp at e1
  · exact impl_ReadDate_of Y M D hD j

theorem damage_eq {l : List Int} {t s : Int} (h : src l t s) (T : ByteArray) (hT : T.size ≤ 100000) : ∃ U t' s', spec_l01Damage.f l t s T = some (U, t', s') ∧ src l t' s' ∧ U.size ≤ T.size + 1 := by
  obtain ⟨v1, t1, s1, e1, h1, b1, c1⟩ := next_eq h ((T.size : Int) + 1) (by omega)
  obtain ⟨v2, t2, s2, e2, h2, b2, c2⟩ := next_eq h1 8 (by omega)
  obtain ⟨v3, t3, s3, e3, h3, b3, c3⟩ := next_eq h2 8 (by omega)
  have hz : ∀ a b : Nat, (T.extract a b).size ≤ T.size := fun a b => by
    rw [← data_length, ← data_length, Lib.extract_data, List.length_take, List.length_drop]; omega
  have hv : v1 ≤ (T.size : Int) := by omega
  unfold spec_l01Damage.f
  rw [wid ((T.size : Int) + 1) (by omega) (by omega), e1]
  simp only [Option.bind_some]
  rw [e2]
  simp only [Option.bind_some]
  by_cases d0 : v2 = 0
  · rw [if_pos d0, if_pos b1, if_pos hv]
    exact ⟨_, _, _, rfl, h2, by have := hz 0 (v1 : Int).toNat; omega⟩
  · rw [if_neg d0]
    by_cases d1 : v2 = 1
    · rw [if_pos d1, if_pos b1, if_pos hv, e3]
      simp only [Option.bind_some]
      have hw : ∃ w : ByteArray, rdOf ByteArray.empty ([(⟨#[48]⟩ : ByteArray), (⟨#[35]⟩ : ByteArray), (⟨#[46]⟩ : ByteArray), (⟨#[47]⟩ : ByteArray), (⟨#[32]⟩ : ByteArray), (⟨#[97]⟩ : ByteArray), (⟨#[45]⟩ : ByteArray), (⟨#[10]⟩ : ByteArray)] : List ByteArray) v3 = w ∧ w.size = 1 := by
        refine ⟨_, rfl, ?_⟩
        have hc : v3 = 0 ∨ v3 = 1 ∨ v3 = 2 ∨ v3 = 3 ∨ v3 = 4 ∨ v3 = 5 ∨ v3 = 6 ∨ v3 = 7 := by omega
        rcases hc with rfl | rfl | rfl | rfl | rfl | rfl | rfl | rfl <;> rfl
      obtain ⟨w, hw, hw1⟩ := hw
      have g1 : (T.extract 0 (v1 : Int).toNat).size + (T.extract (v1 : Int).toNat T.size).size = T.size := by
        rw [← data_length, ← data_length, Lib.extract_data, Lib.extract_data, List.length_take, List.length_drop, List.length_take, List.length_drop, data_length]; omega
      rw [if_pos b3, if_pos (by simp; omega), hw, if_pos (by omega), if_pos (by rw [ByteArray.size_append]; omega)]
      exact ⟨_, _, _, rfl, h3, by rw [ByteArray.size_append, ByteArray.size_append]; omega⟩
    · rw [if_neg d1]
      by_cases d2 : v2 = 2
      · rw [if_pos d2]
        by_cases d3 : v1 < (T.size : Int)
        · have g1 : (T.extract 0 (v1 : Int).toNat).size + (T.extract ((v1 + 1 : Int)).toNat T.size).size ≤ T.size := by
            rw [← data_length, ← data_length, Lib.extract_data, Lib.extract_data, List.length_take, List.length_drop, List.length_take, List.length_drop, data_length]; omega
          rw [if_pos d3, if_pos b1, if_pos hv, wid (v1 + 1) (by omega) (by omega), if_pos (by omega), if_pos (by omega), if_pos (by omega)]
          exact ⟨_, _, _, rfl, h2, by rw [ByteArray.size_append]; omega⟩
        · rw [if_neg d3]
          exact ⟨_, _, _, rfl, h2, by omega⟩
      · rw [if_neg d2]
        exact ⟨_, _, _, rfl, h2, by omega⟩

theorem valid_dat {l : List Int} {t s : Int} (h : src l t s) : ∃ y m d t' s', dat y m d ∧ (∀ k, 300 < k → spec_l07Valid.f k l t s = some (y, m, d, t', s')) ∧ src l t' s' := by
  obtain ⟨v, t1, s1, e1, h1, b1, c1⟩ := next_eq h 72684 (by omega)
  have hn : isN (-36159 + v) := by omega
  obtain ⟨y, m, d, hd, hk⟩ := date_of (-36159 + v) hn
  have b := dat_bounds hd
  refine ⟨y, m, d, t1, s1, hd, fun k hk' => ?_, h1⟩
  unfold spec_l07Valid.f
  rw [spec_year_eq 1901 (by omega) (by omega), spec_year_eq 2100 (by omega) (by omega), yr_1901, yr_2100]; simp only [Option.bind_some]
  rw [show wrap64 (36525 - -36159) = 72684 from wid 72684 (by omega) (by omega), e1]; simp only [Option.bind_some]
  rw [wid _ (by omega) (by omega)]
  unfold spec_l07Date.f
  rw [spec_date_years hd hk 200 1901 (by omega) (by omega) (by omega) _ (by omega)]; rfl

theorem drawReadDate_eq (l : List Int) (hl : l.length ≤ 4096) (hb : ∀ x ∈ l, 0 ≤ x ∧ x ≤ 255) : ∃ T, (∀ k, 300 < k → spec_DrawReadDate.f k l = some T) ∧ T.size ≤ 100 := by
  obtain ⟨s, hs, hf⟩ := from_eq l hl hb
  obtain ⟨y, m, d, t1, s1, hd, e1, h1⟩ := valid_dat hs
  obtain ⟨Y, M, D, rfl, rfl, rfl, hY0, hY, hM, hD⟩ := dat_nat4 hd
  have hz := datT_size Y M D hY0 hY
  obtain ⟨v2, t2, s2, e2, h2, b2, c2⟩ := next_eq h1 3 (by omega)
  obtain ⟨U, t3, s3, e3, h3, b3⟩ := damage_eq h2 (datT Y M D) (by omega)
  have ht : ∀ k, 300 < k → spec_l07Text.f k (Y : Int) (M : Int) (D : Int) = some (datT Y M D) := fun k hk => by
    have := spec_l07Text_eq (k - 10) Y M D hY hM hD
    rwa [show k - 10 + 10 = k by omega] at this
  by_cases c : v2 = 0
  · refine ⟨U, fun k hk => ?_, by omega⟩
    unfold spec_DrawReadDate.f
    rw [hf k (by omega)]; simp only [Option.bind_some]
    rw [e1 k hk]; simp only [Option.bind_some]
    rw [ht k hk]; simp only [Option.bind_some]
    rw [e2]; simp only [Option.bind_some]
    rw [if_pos c, e3]; rfl
  · refine ⟨datT Y M D, fun k hk => ?_, by omega⟩
    unfold spec_DrawReadDate.f
    rw [hf k (by omega)]; simp only [Option.bind_some]
    rw [e1 k hk]; simp only [Option.bind_some]
    rw [ht k hk]; simp only [Option.bind_some]
    rw [e2]; simp only [Option.bind_some]
    rw [if_neg c]

theorem drawDateText_eq (l : List Int) (hl : l.length ≤ 4096) (hb : ∀ x ∈ l, 0 ≤ x ∧ x ≤ 255) : ∃ y m d, ∀ k, 300 < k → spec_DrawDateText.f k l = some (y, m, d) := by
  obtain ⟨s, hs, hf⟩ := from_eq l hl hb
  obtain ⟨y, m, d, t1, s1, e1, h1⟩ := l07Draw_eq hs
  refine ⟨y, m, d, fun k hk => ?_⟩
  unfold spec_DrawDateText.f
  rw [hf k (by omega)]; simp only [Option.bind_some]
  rw [e1 k hk]; rfl

theorem drawDays_eq (l : List Int) (hl : l.length ≤ 4096) (hb : ∀ x ∈ l, 0 ≤ x ∧ x ≤ 255) : ∃ a b, ∀ k, 64 < k → spec_DrawDaysInMonth.f k l = some (a, b) := by
  obtain ⟨s, hs, hf⟩ := from_eq l hl hb
  obtain ⟨v1, t1, s1, e1, h1, b1, c1⟩ := next_eq hs 204 (by omega)
  obtain ⟨v2, t2, s2, e2, h2, b2, c2⟩ := next_eq h1 14 (by omega)
  refine ⟨wrap64 (1898 + v1), v2, fun k hk => ?_⟩
  unfold spec_DrawDaysInMonth.f
  rw [hf k hk]; simp only [Option.bind_some]
  rw [e1]; simp only [Option.bind_some]
  rw [e2]; rfl

theorem drawNth_eq (l : List Int) (hl : l.length ≤ 4096) (hb : ∀ x ∈ l, 0 ≤ x ∧ x ≤ 255) : ∃ a b c d, ∀ k, 64 < k → spec_DrawNthWeekday.f k l = some (a, b, c, d) := by
  obtain ⟨s, hs, hf⟩ := from_eq l hl hb
  obtain ⟨v1, t1, s1, e1, h1, b1, c1⟩ := next_eq hs 199 (by omega)
  obtain ⟨v2, t2, s2, e2, h2, b2, c2⟩ := next_eq h1 201 (by omega)
  obtain ⟨v3, t3, s3, e3, h3, m3⟩ := pick_eq h2 [2024, 2000, wrap64 (1901 + v1), wrap64 (1900 + v2)] (by simp) (by simp)
  obtain ⟨v4, t4, s4, e4, h4, b4, c4⟩ := next_eq h3 12 (by omega)
  obtain ⟨v5, t5, s5, e5, h5, b5, c5⟩ := next_eq h4 24 (by omega)
  obtain ⟨v6, t6, s6, e6, h6, b6, c6⟩ := next_eq h5 7 (by omega)
  obtain ⟨v7, t7, s7, e7, h7, b7, c7⟩ := next_eq h6 24 (by omega)
  obtain ⟨v8, t8, s8, e8, h8, b8, c8⟩ := next_eq h7 24 (by omega)
  obtain ⟨v9, t9, s9, e9, h9, b9, c9⟩ := next_eq h8 6 (by omega)
  obtain ⟨w1, u1, r1, f1, g1, _, _⟩ := next_eq h9 24 (by omega)
  obtain ⟨w2, u2, r2, f2, g2, _, _⟩ := next_eq g1 24 (by omega)
  refine ⟨v3, wrap64 ((wrap64 (1 + v4)) + (wrap64 (Int.tdiv v5 23))), wrap64 ((wrap64 (v6 + (wrap64 (Int.tdiv v7 23)))) - (wrap64 (Int.tdiv v8 23))), wrap64 ((wrap64 (v9 + (wrap64 (Int.tdiv w1 23)))) - (wrap64 (Int.tdiv w2 23))), fun k hk => ?_⟩
  unfold spec_DrawNthWeekday.f
  rw [hf k hk]; simp only [Option.bind_some]
  rw [e1]; simp only [Option.bind_some]
  rw [e2]; simp only [Option.bind_some]
  rw [e3]; simp only [Option.bind_some]
  rw [e4]; simp only [Option.bind_some]
  rw [e5]; simp only [Option.bind_some]
  rw [e6]; simp only [Option.bind_some]
  rw [e7]; simp only [Option.bind_some]
  rw [e8]; simp only [Option.bind_some]
  rw [e9]; simp only [Option.bind_some]
  rw [f1]; simp only [Option.bind_some]
  rw [f2]; rfl

theorem spec_DateText_all (k : Nat) (y m d : Int) : ∃ r, spec_DateText.f (k + 10) y m d = some r ∧ impl_DateText.f (k + 10) y m d = some r ∧ (r.2 = 0 → ∃ Y M D : Nat, y = Y ∧ m = M ∧ d = D ∧ dat y m d ∧ r.1 = datT Y M D) := by
  unfold spec_DateText.f
  rw [spec_IsDate_eq]
  simp only [Option.bind_some]
  by_cases c : dat y m d
  · obtain ⟨Y, M, D, rfl, rfl, rfl, hY0, hY, hM, hD⟩ := dat_nat4 c
    rw [if_pos (decide_eq_true c), spec_l07Text_eq k Y M D hY hM hD]
    exact ⟨_, rfl, impl_DateText_yes (k + 1) Y M D hY hM hD c, fun _ => ⟨Y, M, D, rfl, rfl, rfl, c, rfl⟩⟩
  · have h0 := impl_IsDate_eq (k + 9) y m d
    rw [show k + 9 + 1 = k + 10 from rfl, decide_eq_false c] at h0
    rw [if_neg (by simpa using c)]
    unfold impl_DateText.f
    rw [h0]
    exact ⟨_, rfl, rfl, fun h => absurd h (by simp)⟩

theorem num_dayD (y m d : Int) : num y m d = num y m 1 + (d - 1) := by unfold num; omega

theorem nth_facts {y m w n : Int} (h : nthOk y m w n) (hc : (nthV y m w n).2.2.2 = 0) : ∃ D : Int, nthV y m w n = (y, m, D, 0) ∧ dat y m D ∧ (num y m D + 5) % 7 = w ∧ (if n = 0 then D > dim y m - 7 else (D - 1) / 7 = n - 1) := by
  have dr := dim_range y m
  obtain ⟨⟨hm, hw⟩, hn⟩ := h
  unfold nthV at hc ⊢
  have hF : 1 ≤ fstD y m w ∧ fstD y m w ≤ 7 := by unfold fstD; omega
  have hW : ∀ j : Int, (num y m (fstD y m w + 7 * j) + 5) % 7 = w := fun j => by
    rw [num_dayD]; unfold fstD; omega
  by_cases c : n = 0
  · rw [if_pos c] at hc ⊢
    refine ⟨_, rfl, ⟨hm, ?_⟩, ?_, ?_⟩
    · omega
    · rw [Int.mul_comm ((dim y m - fstD y m w) / 7) 7]; exact hW _
    · rw [if_pos c]; omega
  · rw [if_neg c] at hc ⊢
    by_cases c2 : fstD y m w + 7 * (n - 1) > dim y m
    · rw [if_pos c2] at hc; simp at hc
    · rw [if_neg c2]
      refine ⟨_, rfl, ⟨hm, ?_⟩, hW _, ?_⟩
      · omega
      · rw [if_neg c]; omega

def nthA (y m w n : Int) : Int × Int × Int × Int := if nthOk y m w n then nthV y m w n else (0, 0, 0, 2)

theorem months_j1 (k : Nat) (y m w n : Int) : laws_FnMonths.j1 (k + 21) y m w n (nthA y m w n).2.2.2 (nthA y m w n).1 (nthA y m w n).2.1 (nthA y m w n).2.2.1 = some true := by
  rw [laws_FnMonths.j1]
  by_cases c : (nthA y m w n).2.2.2 = 0
  · rw [if_pos c]
    have hok : nthOk y m w n := by
      by_cases h : nthOk y m w n
      · exact h
      · unfold nthA at c; rw [if_neg h] at c; simp at c
    have hA : nthA y m w n = nthV y m w n := by unfold nthA; rw [if_pos hok]
    rw [hA] at c ⊢
    obtain ⟨D, e, hd, hwd, hif⟩ := nth_facts hok c
    rw [e]
    have hbd := dat_bounds hd
    have dr := dim_range y m
    rw [impl_WeekdayOf_eq k y m D, if_pos hd]
    simp only [Option.bind_some]
    rw [impl_DaysInMonth_eq (k + 19) y m, if_pos hok.1.1]
    simp only [Option.bind_some, if_true]
    rw [if_pos hwd, wid (dim y m - 7) (by omega) (by omega), wid (D - 1) (by omega) (by omega), wid (n - 1) (by omega) (by omega), tdivP _ _ (by omega), wid ((D - 1) / 7) (by omega) (by omega)]
    by_cases c0 : n = 0
    · rw [if_pos c0] at hif
      rw [if_pos c0, if_pos hif]
    · rw [if_neg c0] at hif
      have : n > 0 := by omega
      rw [if_neg c0, if_pos this, hif]
      simp
  · rw [if_neg c]

theorem months_j0 (k : Nat) (y m w n ey em ed : Int) (r : ByteArray × Int) (hr : r.2 = 0 → ∃ Y M D : Nat, ey = Y ∧ em = M ∧ ed = D ∧ dat ey em ed ∧ r.1 = datT Y M D) :
    laws_FnMonths.j0 (k + 22) y m w n (nthA y m w n).2.2.2 r.1 r.2 false (nthA y m w n).1 (nthA y m w n).2.1 (nthA y m w n).2.2.1 ey em ed = some true := by
  rw [laws_FnMonths.j0, if_neg (by simp)]
  by_cases c : r.2 = 0
  · rw [if_pos c]
    obtain ⟨Y, M, D, rfl, rfl, rfl, hd, hT⟩ := hr c
    rw [hT, impl_ReadDate_of Y M D hd (k + 12)]
    simp only [Option.bind_some, if_true]
    rw [if_neg (by simp)]
    exact months_j1 k y m w n
  · rw [if_neg c]
    exact months_j1 k y m w n

theorem FnMonths (l : List Int) (h : l.length ≤ maxLen) (h1 : l.length * 1 ≤ 140737488351232) (hw : ∀ x ∈ l, (Lit.int .u8 x).wf = true) : ∃ k, laws_FnMonths.f k l = some true := by
  have hb := code_bytes hw
  refine ⟨500 + 22, ?_⟩
  generalize hk : 500 = k
  unfold laws_FnMonths.f
  rw [big_eq]
  simp only [Option.bind_some]
  by_cases c : (l.length : Int) > 4096
  · rw [if_pos (decide_eq_true c)]
  · rw [if_neg (by simpa using c)]
    have hl : l.length ≤ 4096 := by omega
    obtain ⟨y, m, w, n, e1⟩ := drawNth_eq l hl hb
    obtain ⟨a, b, e2⟩ := drawDays_eq l hl hb
    obtain ⟨ey, em, ed, e3⟩ := drawDateText_eq l hl hb
    obtain ⟨s, e4, hz⟩ := drawReadDate_eq l hl hb
    obtain ⟨r, r1, r2, hr⟩ := spec_DateText_all (k + 12) ey em ed
    obtain ⟨q, q1, q2, _⟩ := date_read_same s (by omega) (k + 1) (k + 13)
    have i1 := impl_NthWeekday_eq (k - 38) y m w n
    have i2 := spec_NthWeekday_eq (k - 39) y m w n
    rw [show k - 38 + 60 = k + 22 by omega] at i1
    rw [show k - 39 + 61 = k + 22 by omega] at i2
    have iA : (if nthOk y m w n then nthV y m w n else (0, 0, 0, 2)) = nthA y m w n := rfl
    rw [iA] at i1 i2
    rw [e1 _ (by omega)]; simp only [Option.bind_some]
    rw [i1]; simp only [Option.bind_some]
    rw [i2]; simp only [Option.bind_some]
    rw [e2 _ (by omega)]; simp only [Option.bind_some]
    rw [impl_DaysInMonth_eq (k + 21) a b]; simp only [Option.bind_some]
    rw [spec_DaysInMonth_eq a b]; simp only [Option.bind_some]
    rw [e3 _ (by omega)]; simp only [Option.bind_some]
    rw [r2]; simp only [Option.bind_some]
    rw [r1]; simp only [Option.bind_some]
    rw [e4 _ (by omega)]; simp only [Option.bind_some]
    rw [q2]; simp only [Option.bind_some]
    rw [q1]; simp only [Option.bind_some, if_true, beq_self_eq_true, Bool.not_true, Bool.or_false]
    rw [if_neg (by simp)]
    exact months_j0 k y m w n ey em ed r hr

end Go.Proofs.YtndjeclnadpifaaDoor.Pure
