/- Proved: for every code the law FnDates returns true. Conditions: none. -/
import Derived.Test.YtcnaocjhfgnphaaQFnDatesx6
namespace Go.Proofs.Ytcnaocjhfgnphaa.Pure
open Go.RowKit Go.Proofs.Ytcnaocjhfgnphaa.PFnDates Go.Proofs.YtcnaocjhfgnphaaW.PrintWords Go.Proofs.YtcnaocjhfgnphaaW.PrintLast Go.Proofs.YtcnaocjhfgnphaaW.PrintMore
set_option linter.unusedVariables false
set_option linter.unusedSimpArgs false

theorem wid (n : Int) (h0 : -9223372036854775808 ≤ n) (h1 : n ≤ 9223372036854775807) : wrap64 n = n := by unfold wrap64; omega

theorem tmodP (a b : Int) (h : 0 ≤ a) : a.tmod b = a % b := Int.tmod_eq_emod_of_nonneg h

theorem tdivP (a b : Int) (h : 0 ≤ a) : a.tdiv b = a / b := Int.tdiv_eq_ediv_of_nonneg h

theorem ediv_bounds (a b : Int) (hb : 0 < b) : b * (a / b) + a % b = a ∧ 0 ≤ a % b ∧ a % b < b := ⟨Int.mul_ediv_add_emod a b, Int.emod_nonneg _ (by omega), Int.emod_lt_of_pos _ hb⟩

/-- Go's truncated quotient and remainder by a positive number, in Lean's floor form. -/
theorem tdiv_pos_spec (a b : Int) (hb : 0 < b) : a.tmod b = (if 0 ≤ a ∨ a % b = 0 then a % b else a % b - b) ∧ a.tdiv b = (if 0 ≤ a ∨ a % b = 0 then a / b else a / b + 1) := by
  have h1 : a.tdiv b = (if 0 ≤ a ∨ a % b = 0 then a / b else a / b + 1) := by
    rw [Int.tdiv_eq_ediv]
    have e : b.sign = 1 := Int.sign_eq_one_of_pos hb
    rw [e]
    have : (b ∣ a) ↔ a % b = 0 := Int.dvd_iff_emod_eq_zero
    by_cases h : 0 ≤ a ∨ a % b = 0
    · rw [if_pos h, if_pos (by rw [this]; exact h)]; omega
    · rw [if_neg h, if_neg (by rw [this]; exact h)]
  refine ⟨?_, h1⟩
  have h2 := Int.mul_tdiv_add_tmod a b
  have h3 := Int.mul_ediv_add_emod a b
  rw [h1] at h2
  by_cases h : 0 ≤ a ∨ a % b = 0
  · rw [if_pos h] at h2 ⊢; omega
  · rw [if_neg h] at h2 ⊢; rw [Int.mul_add] at h2; omega

theorem ediv_range (a b : Int) (hb : 0 < b) (A : Int) (h0 : -A ≤ a) (h1 : a ≤ A) (hA : 0 ≤ A) : -A ≤ a / b ∧ a / b ≤ A := by
  constructor
  · rw [Int.le_ediv_iff_mul_le hb]
    have : -A * b ≤ -A * 1 := by
      have : A * 1 ≤ A * b := Int.mul_le_mul_of_nonneg_left (by omega) hA
      rw [Int.neg_mul, Int.neg_mul]; omega
    omega
  · have : a / b ≤ A / b := Int.ediv_le_ediv hb h1
    have h2 : A / b ≤ A := Int.ediv_le_self _ hA
    omega

theorem impl_in_eq (n lo hi : Int) : impl_in.f n lo hi = some (decide (lo ≤ n ∧ n ≤ hi)) := by
  unfold impl_in.f; by_cases h : n ≥ lo
  · rw [if_pos h]; simp [show lo ≤ n from h]
  · rw [if_neg h]; simp [show ¬ lo ≤ n from h]

theorem spec_in_eq (n lo hi : Int) : spec_l01In.f n lo hi = some (decide (lo ≤ n ∧ n ≤ hi)) := by
  unfold spec_l01In.f; by_cases h : n ≥ lo
  · rw [if_pos h]; simp [show lo ≤ n from h]
  · rw [if_neg h]; simp [show ¬ lo ≤ n from h]

theorem impl_floor_pos (a b : Int) (hb : 0 < b) (h0 : -9223372036854775807 ≤ a) (h1 : a ≤ 9223372036854775807) : impl_floor.f a b = some (a / b) := by
  have hr := ediv_range a b hb 9223372036854775807 h0 h1 (by omega)
  obtain ⟨e1, e2⟩ := tdiv_pos_spec a b hb
  have hm := Int.emod_nonneg a (show b ≠ 0 by omega)
  have hm2 := Int.emod_lt_of_pos a hb
  unfold impl_floor.f
  rw [if_neg (by omega), e1, e2]
  by_cases h : 0 ≤ a ∨ a % b = 0
  · rw [if_pos h, if_pos h, wid _ (by omega) (by omega)]
    by_cases hz : a % b = 0
    · rw [if_pos hz]
    · rw [if_neg hz, if_neg]
      have : ¬ (a % b < 0) := by omega
      have : ¬ (b < 0) := by omega
      simp [*]
  · rw [if_neg h, if_neg h, if_neg (by omega), if_pos]
    · have : a / b + 1 ≤ 0 := by
        have := Int.ediv_neg_of_neg_of_pos (show a < 0 by omega) hb
        omega
      rw [wid (a / b + 1) (by omega) (by omega), wid _ (by omega) (by omega)]; congr 1; omega
    · have : (a % b - b < 0) := by omega
      have : ¬ (b < 0) := by omega
      simp [*]

theorem impl_mod_pos (a b : Int) (hb : 0 < b) (hb1 : b ≤ 9223372036854775807) (h0 : -9223372036854775807 ≤ a) (h1 : a ≤ 9223372036854775807) (hab : -9223372036854775807 ≤ a - b) : impl_mod.f a b = some (a % b) := by
  obtain ⟨e, m0, m1⟩ := ediv_bounds a b hb
  unfold impl_mod.f
  rw [impl_floor_pos a b hb h0 h1]
  have e2 : a / b * b = a - a % b := by rw [Int.mul_comm]; omega
  simp only [Option.bind_some]
  rw [e2, wid (a - a % b) (by omega) (by omega), wid _ (by omega) (by omega)]; congr 1; omega

theorem spec_mod_pos (a b : Int) (hb : 0 < b) (hb1 : b ≤ 4611686018427387904) : spec_l01Mod.f a b = some (a % b) := by
  unfold spec_l01Mod.f
  rw [if_neg (by omega)]
  obtain ⟨e1, e2⟩ := tdiv_pos_spec a b hb
  have m0 := Int.emod_nonneg a (show b ≠ 0 by omega)
  have m1 := Int.emod_lt_of_pos a hb
  rw [e1]
  by_cases h : 0 ≤ a ∨ a % b = 0
  · rw [if_pos h, wid _ (by omega) (by omega), tmodP _ _ (by omega), Int.add_emod_right, Int.emod_emod]
  · rw [if_neg h, wid _ (by omega) (by omega), tmodP _ _ (by omega)]
    have : a % b - b + b = a % b := by omega
    rw [this, Int.emod_emod]

theorem spec_floor_pos (a b : Int) (hb : 0 < b) (h0 : -9223372036854775807 ≤ a) (h1 : a ≤ 9223372036854775807) : spec_l01Floor.f a b = some (a / b) := by
  have hr := ediv_range a b hb 9223372036854775807 h0 h1 (by omega)
  obtain ⟨e1, e2⟩ := tdiv_pos_spec a b hb
  have hm := Int.emod_nonneg a (show b ≠ 0 by omega)
  have hm2 := Int.emod_lt_of_pos a hb
  unfold spec_l01Floor.f
  rw [if_neg (by omega), if_neg (by omega), e1, e2]
  by_cases h : 0 ≤ a ∨ a % b = 0
  · rw [if_pos h, if_pos h, if_neg (by omega), wid _ (by omega) (by omega)]
  · rw [if_neg h, if_neg h, if_pos (by omega)]
    have : a / b + 1 ≤ 0 := by
      have := Int.ediv_neg_of_neg_of_pos (show a < 0 by omega) hb
      omega
    rw [wid (a / b + 1) (by omega) (by omega), wid _ (by omega) (by omega)]; congr 1; omega

theorem spec_floor_neg (a b : Int) (hb : b < 0) (hb1 : -9223372036854775807 ≤ b) (h0 : -9223372036854775807 ≤ a) (h1 : a ≤ 9223372036854775807) : spec_l01Floor.f a b = some ((-a) / (-b)) := by
  have h := spec_floor_pos (-a) (-b) (by omega) (by omega) (by omega)
  unfold spec_l01Floor.f at h ⊢
  rw [if_neg (by omega), if_neg (by omega)] at h
  rw [if_pos hb, wid (-a) (by omega) (by omega), wid (-b) (by omega) (by omega), if_neg (by omega)]; exact h

/-- The floor of a fraction, whatever the sign of its denominator. -/
def flr (a b : Int) : Int := if 0 < b then a / b else (-a) / (-b)

theorem spec_floor_eq (a b : Int) (hb : b ≠ 0) (hb1 : -9223372036854775807 ≤ b) (h0 : -9223372036854775807 ≤ a) (h1 : a ≤ 9223372036854775807) : spec_l01Floor.f a b = some (flr a b) := by
  unfold flr; by_cases h : 0 < b
  · rw [if_pos h, spec_floor_pos a b h h0 h1]
  · rw [if_neg h, spec_floor_neg a b (by omega) hb1 h0 h1]

theorem flr_range (a b : Int) (hb : b ≠ 0) (A : Int) (h0 : -A ≤ a) (h1 : a ≤ A) (hA : 0 ≤ A) : -A ≤ flr a b ∧ flr a b ≤ A := by
  unfold flr; by_cases h : 0 < b
  · rw [if_pos h]; exact ediv_range a b h A h0 h1 hA
  · rw [if_neg h]; exact ediv_range (-a) (-b) (by omega) A (by omega) (by omega) hA

theorem spec_ceil_eq (a b : Int) (hb : b ≠ 0) (hb1 : -9223372036854775807 ≤ b) (h0 : -9223372036854775807 ≤ a) (h1 : a ≤ 9223372036854775807) : spec_l01Ceil.f a b = some (-(flr (-a) b)) := by
  have := flr_range (-a) b hb 9223372036854775807 (by omega) (by omega) (by omega)
  unfold spec_l01Ceil.f; rw [wid (-a) (by omega) (by omega), spec_floor_eq (-a) b hb hb1 (by omega) (by omega)]; simp only [Option.bind_some]; rw [wid _ (by omega) (by omega)]

theorem bind_dec {α : Type} (p : Prop) [Decidable p] (A : Option α) (B : α) : ((some (decide p)).bind fun t => if t = true then A else some B) = if p then A else some B := by
  by_cases h : p <;> simp [h]

theorem dec_and (p q : Prop) [Decidable p] [Decidable q] : (if decide p = true then some (decide q) else some false) = some (decide (p ∧ q)) := by
  by_cases h : p <;> simp [h]

theorem flr_pos (a b : Int) (h : 0 < b) : flr a b = a / b := by unfold flr; rw [if_pos h]

def dim (y m : Int) : Int := if m = 2 then (if y % 4 = 0 then 29 else 28) else if m = 4 ∨ m = 6 ∨ m = 9 ∨ m = 11 then 30 else 31

theorem tmod4 (y : Int) : Int.tmod y 4 = 0 ↔ y % 4 = 0 := by
  obtain ⟨e, _⟩ := tdiv_pos_spec y 4 (by omega)
  rw [e]; by_cases h : 0 ≤ y ∨ y % 4 = 0
  · rw [if_pos h]
  · rw [if_neg h]; omega

theorem spec_days_eq (y m : Int) : spec_l07Days.f y m = some (dim y m) := by
  unfold spec_l07Days.f dim
  by_cases h2 : m = 2
  · rw [if_pos h2, if_pos h2]; by_cases h : y % 4 = 0
    · rw [if_pos h, if_pos ((tmod4 y).2 h)]
    · rw [if_neg h, if_neg (fun k => h ((tmod4 y).1 k))]
  · rw [if_neg h2, if_neg h2]
    by_cases h4 : m = 4
    · rw [if_pos h4, if_pos (.inl h4)]
    · by_cases h6 : m = 6
      · rw [if_neg h4, if_pos h6, if_pos (.inr (.inl h6))]
      · by_cases h9 : m = 9
        · rw [if_neg h4, if_neg h6, if_pos h9, if_pos (.inr (.inr (.inl h9)))]
        · by_cases h11 : m = 11
          · rw [if_neg h4, if_neg h6, if_neg h9, if_pos h11, if_pos (.inr (.inr (.inr h11)))]
          · rw [if_neg h4, if_neg h6, if_neg h9, if_neg h11, if_neg (by omega)]

theorem impl_days_eq (k : Nat) (y m : Int) : impl_daysInMonth.f (k + 1) y m = some (dim y m) := by
  unfold impl_daysInMonth.f dim
  simp only [impl_daysInMonth.j0]
  by_cases h4 : m = 4
  · subst h4; simp
  · by_cases h6 : m = 6
    · subst h6; simp
    · by_cases h9 : m = 9
      · subst h9; simp
      · by_cases h11 : m = 11
        · subst h11; simp
        · rw [if_neg h4, if_neg h6, if_neg h9, if_neg (by simpa using h11)]
          by_cases h2 : m = 2
          · rw [if_pos h2, if_pos h2]; by_cases h : y % 4 = 0
            · rw [if_pos h, if_pos ((tmod4 y).2 h)]
            · rw [if_neg h, if_neg (fun k => h ((tmod4 y).1 k))]
          · rw [if_neg h2, if_neg h2, if_neg (by omega)]

abbrev mon (y m : Int) : Prop := (1901 ≤ y ∧ y ≤ 2099) ∧ (1 ≤ m ∧ m ≤ 12)

theorem spec_month_eq (y m : Int) : spec_l07Month.f y m = some (decide (mon y m)) := by
  unfold spec_l07Month.f; rw [spec_in_eq, spec_in_eq]; simp only [Option.bind_some, dec_and]

theorem impl_isMonth_eq (y m : Int) : impl_isMonth.f y m = some (decide (mon y m)) := by
  unfold impl_isMonth.f; rw [impl_in_eq, impl_in_eq]; simp only [Option.bind_some, dec_and]

abbrev dat (y m d : Int) : Prop := mon y m ∧ (1 ≤ d ∧ d ≤ dim y m)

theorem spec_IsDate_eq (y m d : Int) : spec_IsDate.f y m d = some (decide (dat y m d)) := by
  unfold spec_IsDate.f; rw [spec_month_eq, spec_days_eq]; simp only [Option.bind_some]; rw [spec_in_eq]; simp only [Option.bind_some, dec_and]

theorem impl_IsDate_eq (k : Nat) (y m d : Int) : impl_IsDate.f (k + 1) y m d = some (decide (dat y m d)) := by
  unfold impl_IsDate.f; rw [impl_isMonth_eq, impl_days_eq]; simp only [Option.bind_some]; rw [impl_in_eq]; simp only [Option.bind_some, dec_and]

/-- The number of January 1 of a year; the days of a year's first n months; the number of a date. -/
def yr (y : Int) : Int := 365 * (y - 2000) - (2000 - y) / 4

def cum (y : Int) : Nat → Int
  | 0 => 0
  | n + 1 => cum y n + dim y ((n : Int) + 1)

def num (y m d : Int) : Int := yr y + d - 1 + cum y (m - 1).toNat

theorem dim_range (y m : Int) : 28 ≤ dim y m ∧ dim y m ≤ 31 := by
  unfold dim; repeat' split
  all_goals omega

theorem cum_succ (y j : Int) (h : 1 ≤ j) : cum y j.toNat = cum y (j - 1).toNat + dim y j := by
  obtain ⟨n, rfl⟩ : ∃ n : Nat, j = (n : Int) + 1 := ⟨(j - 1).toNat, by omega⟩
  rw [show ((n : Int) + 1).toNat = n + 1 by omega, show ((n : Int) + 1 - 1).toNat = n by omega]; rfl

theorem cum_range (y : Int) : ∀ n : Nat, 28 * (n : Int) ≤ cum y n ∧ cum y n ≤ 31 * (n : Int)
  | 0 => by simp [cum]
  | n + 1 => by
    have := cum_range y n; have := dim_range y ((n : Int) + 1)
    simp only [cum]; omega

theorem cum_mono (y : Int) : ∀ (k n : Nat), cum y n ≤ cum y (n + k)
  | 0, n => by simp
  | k + 1, n => by
    have := cum_mono y k n; have := dim_range y (((n + k : Nat) : Int) + 1)
    rw [show n + (k + 1) = (n + k) + 1 by omega]; simp only [cum]; omega

theorem dim2 (y : Int) : dim y 2 = if y % 4 = 0 then 29 else 28 := by unfold dim; rw [if_pos rfl]

theorem cum12 (y : Int) : cum y 12 = if y % 4 = 0 then 366 else 365 := by
  have d1 : dim y 1 = 31 := rfl
  have d3 : dim y 3 = 31 := rfl
  have d4 : dim y 4 = 30 := rfl
  have d5 : dim y 5 = 31 := rfl
  have d6 : dim y 6 = 30 := rfl
  have d7 : dim y 7 = 31 := rfl
  have d8 : dim y 8 = 31 := rfl
  have d9 : dim y 9 = 30 := rfl
  have d10 : dim y 10 = 31 := rfl
  have d11 : dim y 11 = 30 := rfl
  have d12 : dim y 12 = 31 := rfl
  have e : cum y 12 = 0 + dim y 1 + dim y 2 + dim y 3 + dim y 4 + dim y 5 + dim y 6 + dim y 7 + dim y 8 + dim y 9 + dim y 10 + dim y 11 + dim y 12 := rfl
  have d2 := dim2 y
  rw [e, d1, d3, d4, d5, d6, d7, d8, d9, d10, d11, d12, d2]
  split <;> rfl

theorem yr_succ (y : Int) : yr (y + 1) = yr y + cum y 12 := by
  rw [cum12]; unfold yr; split <;> omega

theorem yr_mono (a b : Int) (h : a ≤ b) : yr a ≤ yr b := by unfold yr; omega

theorem spec_year_eq (y : Int) (h0 : -1000000 ≤ y) (h1 : y ≤ 1000000) : spec_l07Year.f y = some (yr y) := by
  unfold spec_l07Year.f yr
  rw [wid (y - 2000) (by omega) (by omega), spec_ceil_eq _ _ (by omega) (by omega) (by omega) (by omega), flr_pos _ _ (by omega)]; simp only [Option.bind_some]
  rw [wid (365 * (y - 2000)) (by omega) (by omega), wid _ (by omega) (by omega)]; congr 1; omega

theorem spec_number_loop (y m d : Int) (hm : m ≤ 12) : ∀ (t : Nat) (n j : Int), 1 ≤ j → m - j ≤ t → j ≤ m → -1000000 ≤ n → n ≤ 1000000 + 31 * j → ∀ k, t < k → spec_l07Number.l0 k n j y m d = some (n + cum y (m - 1).toNat - cum y (j - 1).toNat) := by
  intro t
  induction t with
  | zero =>
    intro n j hj ht hjm hn hn1 k hk
    obtain ⟨k, rfl⟩ : ∃ z, k = z + 1 := ⟨k - 1, by omega⟩
    obtain rfl : j = m := by omega
    simp only [spec_l07Number.l0]; rw [if_neg (by omega)]; congr 1; omega
  | succ t ih =>
    intro n j hj ht hjm hn hn1 k hk
    obtain ⟨k, rfl⟩ : ∃ z, k = z + 1 := ⟨k - 1, by omega⟩
    simp only [spec_l07Number.l0]
    by_cases h : j < m
    · have := dim_range y j
      have := cum_succ y j hj
      rw [if_pos h, spec_days_eq]; simp only [Option.bind_some]
      rw [wid (n + dim y j) (by omega) (by omega), wid (j + 1) (by omega) (by omega), ih (n + dim y j) (j + 1) (by omega) (by omega) (by omega) (by omega) (by omega) k (by omega), show j + 1 - 1 = j by omega]
      congr 1; omega
    · obtain rfl : j = m := by omega
      rw [if_neg h]; congr 1; omega

theorem impl_number_loop (y m d : Int) (hm : m ≤ 12) : ∀ (t : Nat) (n j : Int), 1 ≤ j → m - j ≤ t → j ≤ m → -1000000 ≤ n → n ≤ 1000000 + 31 * j → ∀ k, t + 1 < k → impl_dayNumber.l0 k n j y m d = some (n + cum y (m - 1).toNat - cum y (j - 1).toNat) := by
  intro t
  induction t with
  | zero =>
    intro n j hj ht hjm hn hn1 k hk
    obtain ⟨k, rfl⟩ : ∃ z, k = z + 1 := ⟨k - 1, by omega⟩
    obtain rfl : j = m := by omega
    simp only [impl_dayNumber.l0]; rw [if_neg (by omega)]; congr 1; omega
  | succ t ih =>
    intro n j hj ht hjm hn hn1 k hk
    obtain ⟨k, rfl⟩ : ∃ z, k = z + 1 := ⟨k - 1, by omega⟩
    simp only [impl_dayNumber.l0]
    by_cases h : j < m
    · have := dim_range y j
      have := cum_succ y j hj
      have hd : impl_daysInMonth.f k y j = some (dim y j) := by
        obtain ⟨k, rfl⟩ : ∃ z, k = z + 1 := ⟨k - 1, by omega⟩
        exact impl_days_eq k y j
      rw [if_pos h, hd]; simp only [Option.bind_some]
      rw [wid (n + dim y j) (by omega) (by omega), wid (j + 1) (by omega) (by omega), ih (n + dim y j) (j + 1) (by omega) (by omega) (by omega) (by omega) (by omega) k (by omega), show j + 1 - 1 = j by omega]
      congr 1; omega
    · obtain rfl : j = m := by omega
      rw [if_neg h]; congr 1; omega

theorem yr_range (y : Int) (h0 : 1900 ≤ y) (h1 : y ≤ 2101) : -36600 ≤ yr y ∧ yr y ≤ 37000 := by unfold yr; omega

theorem spec_number_eq (y m d : Int) (h0 : 1900 ≤ y) (h1 : y ≤ 2101) (hm0 : 1 ≤ m) (hm1 : m ≤ 12) (hd0 : -1000 ≤ d) (hd1 : d ≤ 1000) (k : Nat) (hk : 13 < k) : spec_l07Number.f k y m d = some (num y m d) := by
  have := yr_range y h0 h1
  unfold spec_l07Number.f num
  rw [spec_year_eq y (by omega) (by omega)]; simp only [Option.bind_some]
  rw [wid (yr y + d) (by omega) (by omega), wid (yr y + d - 1) (by omega) (by omega), spec_number_loop y m d hm1 12 _ 1 (by omega) (by omega) hm0 (by omega) (by omega) k (by omega)]
  simp [cum]

theorem impl_number_eq (y m d : Int) (h0 : 1901 ≤ y) (h1 : y ≤ 2101) (hm0 : 1 ≤ m) (hm1 : m ≤ 12) (hd0 : -1000 ≤ d) (hd1 : d ≤ 1000) (k : Nat) (hk : 13 < k) : impl_dayNumber.f k y m d = some (num y m d) := by
  have := yr_range y (by omega) h1
  have e : -36159 + 365 * (y - 1901) + (y - 1901) / 4 = yr y := by unfold yr; omega
  unfold impl_dayNumber.f num
  rw [wid (y - 1901) (by omega) (by omega), tdivP _ _ (by omega), wid (365 * (y - 1901)) (by omega) (by omega), wid ((y - 1901) / 4) (by omega) (by omega), wid (-36159 + 365 * (y - 1901)) (by omega) (by omega), e,
    wid (yr y) (by omega) (by omega), wid (yr y + d) (by omega) (by omega), wid (yr y + d - 1) (by omega) (by omega), impl_number_loop y m d hm1 12 _ 1 (by omega) (by omega) hm0 (by omega) (by omega) k (by omega)]
  simp [cum]

theorem dat_bounds {y m d : Int} (h : dat y m d) : 1901 ≤ y ∧ y ≤ 2099 ∧ 1 ≤ m ∧ m ≤ 12 ∧ 1 ≤ d ∧ d ≤ 31 := by
  have := dim_range y m; omega

theorem num_range {y m d : Int} (h0 : 1900 ≤ y) (h1 : y ≤ 2101) (hm0 : 1 ≤ m) (hm1 : m ≤ 12) (hd0 : 0 ≤ d) (hd1 : d ≤ 31) : -40000 ≤ num y m d ∧ num y m d ≤ 40000 := by
  have := yr_range y h0 h1
  have := cum_range y (m - 1).toNat
  unfold num; omega

theorem spec_DayNumber_eq (k : Nat) (y m d : Int) : spec_DayNumber.f (k + 20) y m d = some (if dat y m d then (num y m d, 0) else (0, 1)) := by
  unfold spec_DayNumber.f; rw [spec_IsDate_eq, bind_dec]
  by_cases h : dat y m d
  · have b := dat_bounds h
    rw [if_pos h, if_pos h, spec_number_eq y m d (by omega) (by omega) (by omega) (by omega) (by omega) (by omega) _ (by omega)]; rfl
  · rw [if_neg h, if_neg h]

theorem impl_DayNumber_eq (k : Nat) (y m d : Int) : impl_DayNumber.f (k + 20) y m d = some (if dat y m d then (num y m d, 0) else (0, 1)) := by
  unfold impl_DayNumber.f; rw [impl_IsDate_eq (k + 19), bind_dec]
  by_cases h : dat y m d
  · have b := dat_bounds h
    rw [if_pos h, if_pos h, impl_number_eq y m d (by omega) (by omega) (by omega) (by omega) (by omega) (by omega) _ (by omega)]; rfl
  · rw [if_neg h, if_neg h]

theorem spec_DayOfYear_eq (k : Nat) (y m d : Int) : spec_DayOfYear.f (k + 20) y m d = some (if dat y m d then (num y m d - yr y + 1, 0) else (0, 1)) := by
  unfold spec_DayOfYear.f; rw [spec_IsDate_eq, bind_dec]
  by_cases h : dat y m d
  · have b := dat_bounds h
    have := yr_range y (by omega) (by omega)
    have := num_range (y := y) (m := m) (d := d) (by omega) (by omega) (by omega) (by omega) (by omega) (by omega)
    rw [if_pos h, if_pos h, spec_number_eq y m d (by omega) (by omega) (by omega) (by omega) (by omega) (by omega) _ (by omega), spec_year_eq y (by omega) (by omega)]; simp only [Option.bind_some]
    rw [wid (num y m d - yr y) (by omega) (by omega), wid _ (by omega) (by omega)]
  · rw [if_neg h, if_neg h]

theorem num_first (y : Int) : num y 1 1 = yr y := by unfold num; simp [cum]

theorem impl_DayOfYear_eq (k : Nat) (y m d : Int) : impl_DayOfYear.f (k + 20) y m d = some (if dat y m d then (num y m d - yr y + 1, 0) else (0, 1)) := by
  unfold impl_DayOfYear.f; rw [impl_IsDate_eq (k + 19), bind_dec]
  by_cases h : dat y m d
  · have b := dat_bounds h
    have := yr_range y (by omega) (by omega)
    have := num_range (y := y) (m := m) (d := d) (by omega) (by omega) (by omega) (by omega) (by omega) (by omega)
    rw [if_pos h, if_pos h, impl_number_eq y m d (by omega) (by omega) (by omega) (by omega) (by omega) (by omega) _ (by omega), impl_number_eq y 1 1 (by omega) (by omega) (by omega) (by omega) (by omega) (by omega) _ (by omega), num_first]; simp only [Option.bind_some]
    rw [wid (num y m d - yr y) (by omega) (by omega), wid _ (by omega) (by omega)]
  · rw [if_neg h, if_neg h]

theorem impl_weekday_eq (n : Int) (h0 : -1000000 ≤ n) (h1 : n ≤ 1000000) : impl_weekday.f n = some ((n + 5) % 7) := by
  unfold impl_weekday.f; rw [wid (n + 5) (by omega) (by omega), impl_mod_pos _ _ (by omega) (by omega) (by omega) (by omega) (by omega)]; rfl

theorem spec_weekday_eq (n : Int) (h0 : -1000000 ≤ n) (h1 : n ≤ 1000000) : spec_l07Weekday.f n = some ((n + 5) % 7) := by
  unfold spec_l07Weekday.f; rw [wid (n + 5) (by omega) (by omega), spec_mod_pos _ _ (by omega) (by omega)]; rfl

theorem spec_WeekdayOf_eq (k : Nat) (y m d : Int) : spec_WeekdayOf.f (k + 20) y m d = some (if dat y m d then ((num y m d + 5) % 7, 0) else (0, 1)) := by
  unfold spec_WeekdayOf.f; rw [spec_IsDate_eq, bind_dec]
  by_cases h : dat y m d
  · have b := dat_bounds h
    have := num_range (y := y) (m := m) (d := d) (by omega) (by omega) (by omega) (by omega) (by omega) (by omega)
    rw [if_pos h, if_pos h, spec_number_eq y m d (by omega) (by omega) (by omega) (by omega) (by omega) (by omega) _ (by omega)]; simp only [Option.bind_some]
    rw [spec_weekday_eq _ (by omega) (by omega)]; rfl
  · rw [if_neg h, if_neg h]

theorem impl_WeekdayOf_eq (k : Nat) (y m d : Int) : impl_WeekdayOf.f (k + 20) y m d = some (if dat y m d then ((num y m d + 5) % 7, 0) else (0, 1)) := by
  unfold impl_WeekdayOf.f; rw [impl_IsDate_eq (k + 19), bind_dec]
  by_cases h : dat y m d
  · have b := dat_bounds h
    have := num_range (y := y) (m := m) (d := d) (by omega) (by omega) (by omega) (by omega) (by omega) (by omega)
    rw [if_pos h, if_pos h, impl_number_eq y m d (by omega) (by omega) (by omega) (by omega) (by omega) (by omega) _ (by omega)]; simp only [Option.bind_some]
    rw [impl_weekday_eq _ (by omega) (by omega)]; rfl
  · rw [if_neg h, if_neg h]

/-- Whether a number is that of a date: the first one's is yr 1901, the last one's the one ahead of yr 2100. -/
abbrev isN (n : Int) : Prop := -36159 ≤ n ∧ n ≤ 36524

theorem yr_1901 : yr 1901 = -36159 := by decide

theorem yr_2100 : yr 2100 = 36525 := by decide

theorem num_last : num 2099 12 31 = 36524 := by decide

theorem num_1901 : num 1901 1 1 = -36159 := by decide

theorem impl_isDayNumber_eq (k : Nat) (n : Int) : impl_isDayNumber.f (k + 20) n = some (decide (isN n)) := by
  unfold impl_isDayNumber.f
  rw [impl_number_eq 1901 1 1 (by omega) (by omega) (by omega) (by omega) (by omega) (by omega) _ (by omega), impl_number_eq 2099 12 31 (by omega) (by omega) (by omega) (by omega) (by omega) (by omega) _ (by omega), num_last, num_1901]; simp only [Option.bind_some]
  rw [impl_in_eq]; rfl

theorem spec_has_eq (n : Int) : spec_l07Has.f n = some (decide (isN n)) := by
  unfold spec_l07Has.f
  rw [spec_year_eq 1901 (by omega) (by omega), spec_year_eq 2100 (by omega) (by omega), yr_1901, yr_2100]; simp only [Option.bind_some]
  rw [wid (36525 - 1) (by omega) (by omega), spec_in_eq]; rfl

/-- Each number between the first and the last has a date. -/
theorem year_of (n : Int) (h0 : yr 1901 ≤ n) : ∀ j : Nat, n < yr (1901 + j) → ∃ y : Int, 1901 ≤ y ∧ y < 1901 + j ∧ yr y ≤ n ∧ n < yr (y + 1)
  | 0, h => by simp at h; omega
  | j + 1, h => by
    by_cases c : n < yr (1901 + j)
    · obtain ⟨y, a, b, c, d⟩ := year_of n h0 j c
      exact ⟨y, a, by omega, c, d⟩
    · exact ⟨1901 + (j : Int), by omega, by omega, by omega, by rw [show (1901 + (j : Int)) + 1 = 1901 + ((j + 1 : Nat) : Int) by omega]; exact h⟩

theorem month_of (y r : Int) (h0 : 0 ≤ r) : ∀ j : Nat, r < cum y j → ∃ m : Int, 1 ≤ m ∧ m ≤ j ∧ cum y (m - 1).toNat ≤ r ∧ r < cum y m.toNat
  | 0, h => by simp [cum] at h; omega
  | j + 1, h => by
    by_cases c : r < cum y j
    · obtain ⟨m, a, b, c, d⟩ := month_of y r h0 j c
      exact ⟨m, a, by omega, c, d⟩
    · exact ⟨(j : Int) + 1, by omega, by omega, by rw [show ((j : Int) + 1 - 1).toNat = j by omega]; omega, by rw [show ((j : Int) + 1).toNat = j + 1 by omega]; exact h⟩

theorem date_of (n : Int) (h : isN n) : ∃ y m d, dat y m d ∧ num y m d = n := by
  obtain ⟨y, y0, y1, y2, y3⟩ := year_of n (by rw [yr_1901]; omega) 199 (by rw [show (1901 : Int) + (199 : Nat) = 2100 by omega, yr_2100]; omega)
  obtain ⟨m, m0, m1, m2, m3⟩ := month_of y (n - yr y) (by omega) 12 (by rw [yr_succ] at y3; omega)
  have := cum_succ y m m0
  exact ⟨y, m, n - yr y - cum y (m - 1).toNat + 1, ⟨⟨⟨y0, by omega⟩, ⟨m0, by omega⟩⟩, by omega, by omega⟩, by unfold num; omega⟩

/-- What a date's number says of its year and month. -/
theorem date_year {y m d n : Int} (h : dat y m d) (hn : num y m d = n) : yr y ≤ n ∧ n < yr (y + 1) := by
  obtain ⟨b0, b1, b2, b3, b4, b5⟩ := dat_bounds h
  have c0 := cum_succ y m b2
  have c1 := cum_range y (m - 1).toNat
  have c2 := cum_mono y (12 - m).toNat m.toNat
  rw [show m.toNat + (12 - m).toNat = 12 by omega] at c2
  have := yr_succ y
  unfold num at hn; omega

theorem cum_le (y a b : Int) (h0 : 0 ≤ a) (h : a ≤ b) : cum y a.toNat ≤ cum y b.toNat := by
  have := cum_mono y (b - a).toNat a.toNat
  rwa [show a.toNat + (b - a).toNat = b.toNat by omega] at this

theorem spec_date_months {y m d n : Int} (h : dat y m d) (hn : num y m d = n) : ∀ (t : Nat) (j : Int), 1 ≤ j → j ≤ m → m - j ≤ t → ∀ k, t < k → spec_l07Date.l1 k y (n - yr y - cum y (j - 1).toNat) j = some (y, m, d) := by
  obtain ⟨b0, b1, b2, b3, b4, b5⟩ := dat_bounds h
  have hy := yr_range y (by omega) (by omega)
  have hc := cum_range y (m - 1).toNat
  intro t
  induction t with
  | zero =>
    intro j j0 j1 j2 k hk
    obtain ⟨k, rfl⟩ : ∃ z, k = z + 1 := ⟨k - 1, by omega⟩
    obtain rfl : j = m := by omega
    have e : n - yr y - cum y (j - 1).toNat = d - 1 := by unfold num at hn; omega
    simp only [spec_l07Date.l1]; rw [e, spec_days_eq]; simp only [Option.bind_some]
    rw [if_neg (by omega), wid _ (by omega) (by omega)]; simp
  | succ t ih =>
    intro j j0 j1 j2 k hk
    obtain ⟨k, rfl⟩ : ∃ z, k = z + 1 := ⟨k - 1, by omega⟩
    by_cases c : j = m
    · subst c
      have e : n - yr y - cum y (j - 1).toNat = d - 1 := by unfold num at hn; omega
      simp only [spec_l07Date.l1]; rw [e, spec_days_eq]; simp only [Option.bind_some]
      rw [if_neg (by omega), wid _ (by omega) (by omega)]; simp
    · have c1 := cum_succ y j j0
      have c2 := cum_le y j (m - 1) (by omega) (by omega)
      have c3 := cum_range y (j - 1).toNat
      have c4 := dim_range y j
      simp only [spec_l07Date.l1]; rw [spec_days_eq]; simp only [Option.bind_some]
      rw [if_pos (by unfold num at hn; omega), wid (n - yr y - cum y (j - 1).toNat - dim y j) (by unfold num at hn; omega) (by unfold num at hn; omega), wid (j + 1) (by omega) (by omega)]
      have := ih (j + 1) (by omega) (by omega) (by omega) k (by omega)
      rw [show j + 1 - 1 = j by omega, c1] at this
      rw [show n - yr y - cum y (j - 1).toNat - dim y j = n - yr y - (cum y (j - 1).toNat + dim y j) by omega]; exact this

theorem spec_date_years {y m d n : Int} (h : dat y m d) (hn : num y m d = n) : ∀ (t : Nat) (j : Int), 1901 ≤ j → j ≤ y → y - j ≤ t → ∀ k, t + 13 < k → spec_l07Date.l0 k n j = some (y, m, d) := by
  obtain ⟨b0, b1, b2, b3, b4, b5⟩ := dat_bounds h
  obtain ⟨g0, g1⟩ := date_year h hn
  have hend : ∀ k, 13 < k → spec_l07Date.l0 k n y = some (y, m, d) := by
    intro k hk
    obtain ⟨k, rfl⟩ : ∃ z, k = z + 1 := ⟨k - 1, by omega⟩
    have hy := yr_range y (by omega) (by omega)
    have hy1 := yr_range (y + 1) (by omega) (by omega)
    simp only [spec_l07Date.l0]
    rw [wid (y + 1) (by omega) (by omega), spec_year_eq (y + 1) (by omega) (by omega), spec_year_eq y (by omega) (by omega)]; simp only [Option.bind_some]
    rw [if_neg (by omega), wid (n - yr y) (by omega) (by omega)]
    have := spec_date_months h hn 12 1 (by omega) (by omega) (by omega) k (by omega)
    simpa [cum] using this
  intro t
  induction t with
  | zero =>
    intro j j0 j1 j2 k hk
    obtain rfl : j = y := by omega
    exact hend k (by omega)
  | succ t ih =>
    intro j j0 j1 j2 k hk
    by_cases c : j = y
    · subst c; exact hend k (by omega)
    · obtain ⟨k, rfl⟩ : ∃ z, k = z + 1 := ⟨k - 1, by omega⟩
      have := yr_mono (j + 1) y (by omega)
      simp only [spec_l07Date.l0]
      rw [wid (j + 1) (by omega) (by omega), spec_year_eq (j + 1) (by omega) (by omega)]; simp only [Option.bind_some]
      rw [if_pos (by omega)]
      exact ih (j + 1) (by omega) (by omega) (by omega) k (by omega)

theorem impl_date_months {y m d n : Int} (h : dat y m d) (hn : num y m d = n) : ∀ (t : Nat) (j : Int), 1 ≤ j → j ≤ m → m - j ≤ t → ∀ k, t + 14 < k → impl_dateOf.l1 k n y j = some (y, m, d) := by
  obtain ⟨b0, b1, b2, b3, b4, b5⟩ := dat_bounds h
  have hy := yr_range y (by omega) (by omega)
  have hc := cum_range y (m - 1).toNat
  have hn1 := num_range (y := y) (m := m) (d := 1) (by omega) (by omega) (by omega) (by omega) (by omega) (by omega)
  have hnm : n - num y m 1 + 1 = d := by unfold num at hn ⊢; omega
  have hend : ∀ k, 14 < k → impl_dateOf.l1 k n y m = some (y, m, d) := by
    intro k hk
    obtain ⟨k, rfl⟩ : ∃ z, k = z + 1 := ⟨k - 1, by omega⟩
    simp only [impl_dateOf.l1]
    rw [impl_number_eq y m 1 (by omega) (by omega) (by omega) (by omega) (by omega) (by omega) k (by omega)]; simp only [Option.bind_some]
    rw [wid (n - num y m 1) (by omega) (by omega), wid (n - num y m 1 + 1) (by omega) (by omega), hnm]
    by_cases c : m < 12
    · have := cum_succ y m b2
      rw [if_pos c, wid (m + 1) (by omega) (by omega), impl_number_eq y (m + 1) 1 (by omega) (by omega) (by omega) (by omega) (by omega) (by omega) k (by omega)]; simp only [Option.bind_some]
      rw [if_neg]
      unfold num at hn ⊢; rw [show m + 1 - 1 = m by omega]; omega
    · rw [if_neg c]
  intro t
  induction t with
  | zero =>
    intro j j0 j1 j2 k hk
    obtain rfl : j = m := by omega
    exact hend k (by omega)
  | succ t ih =>
    intro j j0 j1 j2 k hk
    by_cases c : j = m
    · subst c; exact hend k (by omega)
    · obtain ⟨k, rfl⟩ : ∃ z, k = z + 1 := ⟨k - 1, by omega⟩
      have c2 := cum_le y j (m - 1) (by omega) (by omega)
      simp only [impl_dateOf.l1]
      rw [if_pos (by omega), wid (j + 1) (by omega) (by omega), impl_number_eq y (j + 1) 1 (by omega) (by omega) (by omega) (by omega) (by omega) (by omega) k (by omega)]; simp only [Option.bind_some]
      rw [if_pos]
      · exact ih (j + 1) (by omega) (by omega) (by omega) k (by omega)
      · unfold num at hn ⊢; rw [show j + 1 - 1 = j by omega]; omega

theorem impl_date_years {y m d n : Int} (h : dat y m d) (hn : num y m d = n) : ∀ (t : Nat) (j : Int), 1901 ≤ j → j ≤ y → y - j ≤ t → ∀ k, t + 30 < k → impl_dateOf.l0 k n j = some (y, m, d) := by
  obtain ⟨b0, b1, b2, b3, b4, b5⟩ := dat_bounds h
  obtain ⟨g0, g1⟩ := date_year h hn
  have hj : ∀ k, 28 < k → impl_dateOf.j1 k n y = some (y, m, d) := by
    intro k hk
    obtain ⟨k, rfl⟩ : ∃ z, k = z + 1 := ⟨k - 1, by omega⟩
    simp only [impl_dateOf.j1]
    exact impl_date_months h hn 12 1 (by omega) (by omega) (by omega) k (by omega)
  have hend : ∀ k, 29 < k → impl_dateOf.l0 k n y = some (y, m, d) := by
    intro k hk
    obtain ⟨k, rfl⟩ : ∃ z, k = z + 1 := ⟨k - 1, by omega⟩
    simp only [impl_dateOf.l0]
    by_cases c : y < 2099
    · rw [if_pos c, wid (y + 1) (by omega) (by omega), impl_number_eq (y + 1) 1 1 (by omega) (by omega) (by omega) (by omega) (by omega) (by omega) k (by omega), num_first]; simp only [Option.bind_some]
      rw [if_neg (by omega)]; exact hj k (by omega)
    · rw [if_neg c]; exact hj k (by omega)
  intro t
  induction t with
  | zero =>
    intro j j0 j1 j2 k hk
    obtain rfl : j = y := by omega
    exact hend k (by omega)
  | succ t ih =>
    intro j j0 j1 j2 k hk
    by_cases c : j = y
    · subst c; exact hend k (by omega)
    · obtain ⟨k, rfl⟩ : ∃ z, k = z + 1 := ⟨k - 1, by omega⟩
      have := yr_mono (j + 1) y (by omega)
      simp only [impl_dateOf.l0]
      rw [if_pos (by omega), wid (j + 1) (by omega) (by omega), impl_number_eq (j + 1) 1 1 (by omega) (by omega) (by omega) (by omega) (by omega) (by omega) k (by omega), num_first]; simp only [Option.bind_some]
      rw [if_pos (by omega)]
      exact ih (j + 1) (by omega) (by omega) (by omega) k (by omega)

theorem spec_DateOf_yes (k : Nat) {y m d n : Int} (h : dat y m d) (hn : num y m d = n) (hi : isN n) : spec_DateOf.f (k + 300) n = some (y, m, d, 0) := by
  obtain ⟨b0, b1, b2, b3, b4, b5⟩ := dat_bounds h
  unfold spec_DateOf.f spec_l07Date.f
  rw [spec_has_eq, bind_dec, if_pos hi, spec_date_years h hn 200 1901 (by omega) (by omega) (by omega) _ (by omega)]; rfl

theorem impl_DateOf_yes (k : Nat) {y m d n : Int} (h : dat y m d) (hn : num y m d = n) (hi : isN n) : impl_DateOf.f (k + 300) n = some (y, m, d, 0) := by
  obtain ⟨b0, b1, b2, b3, b4, b5⟩ := dat_bounds h
  unfold impl_DateOf.f impl_dateOf.f
  rw [impl_isDayNumber_eq (k + 280), bind_dec, if_pos hi, impl_date_years h hn 200 1901 (by omega) (by omega) (by omega) _ (by omega)]; rfl

theorem spec_DateOf_no (k : Nat) (n : Int) (hi : ¬ isN n) : spec_DateOf.f (k + 300) n = some (0, 0, 0, 4) := by
  unfold spec_DateOf.f; rw [spec_has_eq, bind_dec, if_neg hi]

theorem impl_DateOf_no (k : Nat) (n : Int) (hi : ¬ isN n) : impl_DateOf.f (k + 300) n = some (0, 0, 0, 4) := by
  unfold impl_DateOf.f; rw [impl_isDayNumber_eq (k + 280), bind_dec, if_neg hi]

/-- A source of draws over the code l: how many of its bytes are used, and its seed. -/
def src (l : List Int) (t s : Int) : Prop := (0 ≤ t ∧ t ≤ (l.length : Int)) ∧ (l.length ≤ 4096 ∧ ∀ x ∈ l, 0 ≤ x ∧ x ≤ 255) ∧ (0 ≤ s ∧ s < 2147483647)

theorem rd_byte (l : List Int) (h : ∀ x ∈ l, 0 ≤ x ∧ x ≤ 255) (i : Int) : 0 ≤ rd l i ∧ rd l i ≤ 255 := by
  unfold rd
  by_cases c : i.toNat < l.length
  · rw [List.getD_eq_getElem?_getD, List.getElem?_eq_getElem c]; exact h _ (List.getElem_mem c)
  · rw [List.getD_eq_getElem?_getD, List.getElem?_eq_none (by omega)]; simp

theorem from_loop (l : List Int) (hl : l.length ≤ 4096) (hb : ∀ x ∈ l, 0 ≤ x ∧ x ≤ 255) : ∀ (d : Nat) (i s : Int), 0 ≤ i → 64 - i ≤ d → 0 ≤ s → s < 2147483647 →
    ∃ s', (0 ≤ s' ∧ s' < 2147483647) ∧ ∀ k, d < k → spec_l01From.l0 k l i l 0 s = some (l, 0, s') := by
  intro d
  induction d with
  | zero =>
    intro i s h0 h1 h2 h3
    refine ⟨s, ⟨h2, h3⟩, fun k hk => ?_⟩
    obtain ⟨k, rfl⟩ : ∃ z, k = z + 1 := ⟨k - 1, by omega⟩
    simp only [spec_l01From.l0]
    by_cases c : i < (l.length : Int)
    · rw [if_pos c, if_neg (by omega)]
    · rw [if_neg c]
  | succ d ih =>
    intro i s h0 h1 h2 h3
    by_cases c : i < (l.length : Int)
    · by_cases c2 : i < 64
      · have hr := rd_byte l hb i
        have e1 : wrap64 (s * 71) = s * 71 := wid _ (by omega) (by omega)
        have e2 : wrap64 (rd l i) = rd l i := wid _ (by omega) (by omega)
        have e3 : wrap64 (s * 71 + rd l i) = s * 71 + rd l i := wid _ (by omega) (by omega)
        have e4 : Int.tmod (s * 71 + rd l i) 2147483647 = (s * 71 + rd l i) % 2147483647 := tmodP _ _ (by omega)
        obtain ⟨s', hs, hk⟩ := ih (i + 1) ((s * 71 + rd l i) % 2147483647) (by omega) (by omega) (by omega) (by omega)
        refine ⟨s', hs, fun k hk' => ?_⟩
        obtain ⟨k, rfl⟩ : ∃ z, k = z + 1 := ⟨k - 1, by omega⟩
        simp only [spec_l01From.l0]
        rw [if_pos c, if_pos c2, if_pos h0, e1, e2, e3, e4, wid (i + 1) (by omega) (by omega)]
        exact hk k (by omega)
      · refine ⟨s, ⟨h2, h3⟩, fun k hk => ?_⟩
        obtain ⟨k, rfl⟩ : ∃ z, k = z + 1 := ⟨k - 1, by omega⟩
        simp only [spec_l01From.l0]; rw [if_pos c, if_neg c2]
    · refine ⟨s, ⟨h2, h3⟩, fun k hk => ?_⟩
      obtain ⟨k, rfl⟩ : ∃ z, k = z + 1 := ⟨k - 1, by omega⟩
      simp only [spec_l01From.l0]; rw [if_neg c]

theorem from_eq (l : List Int) (hl : l.length ≤ 4096) (hb : ∀ x ∈ l, 0 ≤ x ∧ x ≤ 255) : ∃ s, src l 0 s ∧ ∀ k, 64 < k → spec_l01From.f k l = some (l, 0, s) := by
  obtain ⟨s, hs, hk⟩ := from_loop l hl hb 64 0 21013 (by omega) (by omega) (by omega) (by omega)
  exact ⟨s, ⟨⟨by omega, by omega⟩, ⟨hl, hb⟩, hs⟩, hk⟩

theorem next_eq {l : List Int} {t s : Int} (h : src l t s) (n : Int) (hn : n ≤ 1000000000000000000) : ∃ v t' s', spec_l01Next.f l t s n = some (v, t', s') ∧ src l t' s' ∧ 0 ≤ v ∧ (v < n ∨ v = 0 ∧ n ≤ 1) := by
  obtain ⟨⟨t0, t1⟩, ⟨l0, l1⟩, s0, s1⟩ := h
  unfold spec_l01Next.f
  by_cases c : n ≤ 1
  · rw [if_pos c]; exact ⟨0, t, s, rfl, ⟨⟨t0, t1⟩, ⟨l0, l1⟩, s0, s1⟩, by omega, .inr ⟨rfl, c⟩⟩
  · have e1 : wrap64 (s * 48271) = s * 48271 := wid _ (by omega) (by omega)
    have e2 : wrap64 (s * 48271 + 29) = s * 48271 + 29 := wid _ (by omega) (by omega)
    have e3 : Int.tmod (s * 48271 + 29) 2147483647 = (s * 48271 + 29) % 2147483647 := tmodP _ _ (by omega)
    rw [if_neg c, e1, e2, e3]
    generalize hq : (s * 48271 + 29) % 2147483647 = q
    have q0 : 0 ≤ q ∧ q < 2147483647 := by omega
    have e4 : wrap64 (Int.tdiv q 31) = q / 31 := by rw [tdivP _ _ q0.1]; exact wid _ (by omega) (by omega)
    have n0 : ¬ n = 0 := by omega
    rw [e4]
    have hm : ∀ x : Int, 0 ≤ x → 0 ≤ Int.tmod x n ∧ Int.tmod x n < n := by
      intro x hx
      rw [tmodP _ _ hx]; exact ⟨Int.emod_nonneg _ (by omega), Int.emod_lt_of_pos _ (by omega)⟩
    by_cases c1 : t < (l.length : Int)
    · have hr := rd_byte l l1 t
      have e5 : wrap64 (t + 1) = t + 1 := wid _ (by omega) (by omega)
      have e6 : wrap64 (rd l t) = rd l t := wid _ (by omega) (by omega)
      have e7 : wrap64 (q / 31 + rd l t) = q / 31 + rd l t := wid _ (by omega) (by omega)
      have e8 : wrap64 (t + 1 - 1) = t := by rw [show t + 1 - 1 = t by omega]; exact wid _ (by omega) (by omega)
      rw [if_pos c1, if_pos t0, e5, e8, e6, e7, if_neg n0, if_neg n0, if_pos t0, if_pos c1]
      have hs' : src l (t + 1) q := ⟨⟨by omega, by omega⟩, ⟨l0, l1⟩, q0.1, q0.2⟩
      have a1 := hm (rd l t) hr.1
      have a2 := hm (q / 31 + rd l t) (by omega)
      by_cases c2 : n ≤ 256
      · rw [if_pos c2]
        by_cases c3 : Int.tmod (t + 1) 2 = 0
        · rw [if_pos c3]; exact ⟨_, _, _, rfl, hs', a1.1, .inl a1.2⟩
        · rw [if_neg c3]; exact ⟨_, _, _, rfl, hs', a2.1, .inl a2.2⟩
      · rw [if_neg c2]; exact ⟨_, _, _, rfl, hs', a2.1, .inl a2.2⟩
    · have a3 := hm (q / 31) (by omega)
      rw [if_neg c1, if_neg n0]; exact ⟨_, _, _, rfl, ⟨⟨t0, t1⟩, ⟨l0, l1⟩, q0.1, q0.2⟩, a3.1, .inl a3.2⟩

theorem pick_eq {l : List Int} {t s : Int} (h : src l t s) (xs : List Int) (h1 : 0 < xs.length) (h2 : xs.length ≤ 100) : ∃ v t' s', spec_l01Pick.f l t s xs = some (v, t', s') ∧ src l t' s' ∧ v ∈ xs := by
  obtain ⟨v, t', s', e, hs, v0, v1⟩ := next_eq h (xs.length : Int) (by omega)
  unfold spec_l01Pick.f
  rw [e]; simp only [Option.bind_some]
  have hv : v < (xs.length : Int) := by omega
  rw [if_pos v0, if_pos hv]
  refine ⟨_, _, _, rfl, hs, ?_⟩
  unfold rd
  have hlt : v.toNat < xs.length := by omega
  rw [List.getD_eq_getElem?_getD, List.getElem?_eq_getElem hlt]; exact List.getElem_mem hlt

/-- What the laws over a code take of it. -/
theorem code_bytes {l : List Int} (h : ∀ x ∈ l, (Lit.int .u8 x).wf = true) : ∀ x ∈ l, 0 ≤ x ∧ x ≤ 255 := by
  intro x hx
  have := h x hx
  simp [Lit.wf, IntKind.min, IntKind.max, IntKind.signed, IntKind.bits] at this
  omega

theorem big_eq (l : List Int) : laws_big.f l = some (decide ((l.length : Int) > 4096)) := rfl

theorem valid_eq {l : List Int} {t s : Int} (h : src l t s) : ∃ y m d t' s', (∀ k, 300 < k → spec_l07Valid.f k l t s = some (y, m, d, t', s')) ∧ src l t' s' := by
  obtain ⟨v, t1, s1, e1, h1, b1, c1⟩ := next_eq h 72684 (by omega)
  have hn : isN (-36159 + v) := by omega
  obtain ⟨y, m, d, hd, hk⟩ := date_of (-36159 + v) hn
  have b := dat_bounds hd
  refine ⟨y, m, d, t1, s1, fun k hk' => ?_, h1⟩
  unfold spec_l07Valid.f
  rw [spec_year_eq 1901 (by omega) (by omega), spec_year_eq 2100 (by omega) (by omega), yr_1901, yr_2100]; simp only [Option.bind_some]
  rw [show wrap64 (36525 - -36159) = 72684 from wid 72684 (by omega) (by omega), e1]; simp only [Option.bind_some]
  rw [wid _ (by omega) (by omega)]
  unfold spec_l07Date.f
  rw [spec_date_years hd hk 200 1901 (by omega) (by omega) (by omega) _ (by omega)]; rfl

theorem l07Draw_eq {l : List Int} {t s : Int} (h : src l t s) : ∃ y m d t' s', (∀ k, 300 < k → spec_l07Draw.f k l t s = some (y, m, d, t', s')) ∧ src l t' s' := by
  obtain ⟨y, m, d, t1, s1, e1, h1⟩ := valid_eq h
  obtain ⟨v, t2, s2, e2, h2, b2, c2⟩ := next_eq h1 24 (by omega)
  obtain ⟨v3, t3, s3, e3, h3, m3⟩ := pick_eq h2 [1900, 1901, 2099, 2100, 2000] (by simp) (by simp)
  obtain ⟨v4, t4, s4, e4, h4, m4⟩ := pick_eq h2 [0, 1, 2, 12, 13] (by simp) (by simp)
  obtain ⟨v5, t5, s5, e5, h5, m5⟩ := pick_eq h2 [0, 28, 29, 30, 31, 32] (by simp) (by simp)
  by_cases c0 : v = 0
  · refine ⟨v3, m, d, t3, s3, fun k hk => ?_, h3⟩
    unfold spec_l07Draw.f
    rw [e1 k hk]; simp only [Option.bind_some]
    rw [e2]; simp only [Option.bind_some]
    rw [if_pos c0, e3]; rfl
  · by_cases c1 : v = 1
    · refine ⟨y, v4, d, t4, s4, fun k hk => ?_, h4⟩
      unfold spec_l07Draw.f
      rw [e1 k hk]; simp only [Option.bind_some]
      rw [e2]; simp only [Option.bind_some]
      rw [if_neg c0, if_pos c1, e4]; rfl
    · by_cases c2 : v = 2
      · refine ⟨y, m, v5, t5, s5, fun k hk => ?_, h5⟩
        unfold spec_l07Draw.f
        rw [e1 k hk]; simp only [Option.bind_some]
        rw [e2]; simp only [Option.bind_some]
        rw [if_neg c0, if_neg c1, if_pos c2, e5]; rfl
      · refine ⟨y, m, d, t2, s2, fun k hk => ?_, h2⟩
        unfold spec_l07Draw.f
        rw [e1 k hk]; simp only [Option.bind_some]
        rw [e2]; simp only [Option.bind_some]
        rw [if_neg c0, if_neg c1, if_neg c2]

theorem drawDayNumber_eq (l : List Int) (hl : l.length ≤ 4096) (hb : ∀ x ∈ l, 0 ≤ x ∧ x ≤ 255) : ∃ y m d, ∀ k, 300 < k → spec_DrawDayNumber.f k l = some (y, m, d) := by
  obtain ⟨s, hs, hf⟩ := from_eq l hl hb
  obtain ⟨y, m, d, t1, s1, e1, h1⟩ := l07Draw_eq hs
  refine ⟨y, m, d, fun k hk => ?_⟩
  unfold spec_DrawDayNumber.f
  rw [hf k (by omega)]; simp only [Option.bind_some]
  rw [e1 k hk]; rfl

theorem drawDateOf_eq (l : List Int) (hl : l.length ≤ 4096) (hb : ∀ x ∈ l, 0 ≤ x ∧ x ≤ 255) : ∃ n, ∀ k, 300 < k → spec_DrawDateOf.f k l = some n := by
  obtain ⟨s, hs, hf⟩ := from_eq l hl hb
  obtain ⟨v1, t1, s1, e1, h1, b1, c1⟩ := next_eq hs 72684 (by omega)
  obtain ⟨v2, t2, s2, e2, h2, b2, c2⟩ := next_eq h1 72684 (by omega)
  obtain ⟨v3, t3, s3, e3, h3, m3⟩ := pick_eq h2 [wrap64 (-36159 - 1), -36159, wrap64 (36525 - 1), 36525, 0, (-1), wrap64 (-36159 + v1), wrap64 (-36159 + v2)] (by simp) (by simp)
  refine ⟨v3, fun k hk => ?_⟩
  unfold spec_DrawDateOf.f
  rw [hf k (by omega)]; simp only [Option.bind_some]
  rw [spec_year_eq 1901 (by omega) (by omega), spec_year_eq 2100 (by omega) (by omega), yr_1901, yr_2100]; simp only [Option.bind_some]
  rw [show wrap64 (36525 - -36159) = 72684 from wid 72684 (by omega) (by omega), e1]; simp only [Option.bind_some]
  rw [e2]; simp only [Option.bind_some]
  rw [e3]; rfl

theorem dat_isN {y m d : Int} (h : dat y m d) : isN (num y m d) := by
  have b := dat_bounds h
  have g := date_year h rfl
  have m1 := yr_mono 1901 y (by omega)
  have m2 := yr_mono (y + 1) 2100 (by omega)
  rw [yr_1901] at m1; rw [yr_2100] at m2
  omega
theorem dates_j2_ok (k : Nat) (n y m d : Int) (h : dat y m d) (hn : num y m d = n + 1) (h0 : -100000 ≤ n ∧ n ≤ 100000) : laws_FnDates.j2 (k + 21) ((n + 5) % 7) 0 false y m d = some true := by
  simp only [laws_FnDates.j2]
  rw [if_neg (by decide)]; simp only [if_true]
  rw [impl_WeekdayOf_eq k, if_pos h, hn]; simp only [Option.bind_some, if_true]
  rw [wid _ (by omega) (by omega), tmodP _ _ (by omega), beq_iff_eq.2 (by omega)]
theorem dates_j1 (k : Nat) (y m d : Int) : laws_FnDates.j1 (k + 302) (if dat y m d then (num y m d, 0) else ((0, 1) : Int × Int)).1 (if dat y m d then (num y m d, 0) else ((0, 1) : Int × Int)).2 (if dat y m d then ((num y m d + 5) % 7, 0) else ((0, 1) : Int × Int)).1 (if dat y m d then (num y m d - yr y + 1, 0) else ((0, 1) : Int × Int)).1 y m d = some true := by
  by_cases h : dat y m d
  · have hi := dat_isN h
    have b := dat_bounds h
    have c0 := cum_range y (m - 1).toNat
    have c1 := cum_succ y m (by omega)
    have c2 := cum_le y m 12 (by omega) (by omega)
    have c3 := cum12 y
    have hy : 1 ≤ num y m d - yr y + 1 ∧ num y m d - yr y + 1 ≤ 366 := by
      rw [show (12 : Int).toNat = 12 by rfl, c3] at c2
      have : (if y % 4 = 0 then (366 : Int) else 365) ≤ 366 := by split <;> omega
      unfold num; omega
    rw [if_pos h, if_pos h, if_pos h]
    simp only [laws_FnDates.j1]
    simp only [if_true]
    rw [impl_DateOf_yes (k + 1) h rfl hi, wid (num y m d + 1) (by omega) (by omega)]
    by_cases hj : isN (num y m d + 1)
    · obtain ⟨y2, m2, d2, h2, hn2⟩ := date_of _ hj
      rw [impl_DateOf_yes (k + 1) h2 hn2 hj]; simp only [Option.bind_some, if_true, beq_self_eq_true, Bool.not_true, Bool.or_self, Bool.false_eq_true, if_false]
      rw [if_neg (by omega), decide_eq_false (by omega)]
      exact dates_j2_ok (k + 280) (num y m d) y2 m2 d2 h2 hn2 (by omega)
    · rw [impl_DateOf_no (k + 1) _ hj]; simp only [Option.bind_some, if_true, beq_self_eq_true, Bool.not_true, Bool.or_self, Bool.false_eq_true, if_false]
      rw [if_neg (by omega), decide_eq_false (by omega)]
      show laws_FnDates.j2 ((k + 300) + 1) _ 4 false 0 0 0 = some true
      simp only [laws_FnDates.j2]; rw [if_neg (by decide), if_neg (by decide)]; rfl
  · rw [if_neg h, if_neg h, if_neg h]
    show laws_FnDates.j1 ((k + 301) + 1) 0 1 0 0 y m d = some true
    simp only [laws_FnDates.j1]; rw [if_neg (by decide)]
theorem FnDates : laws_FnDates.Pure := by
  intro l _ _ hw
  have hb := code_bytes hw
  by_cases hl : l.length ≤ 4096
  · obtain ⟨y, m, d, hd⟩ := drawDayNumber_eq l hl hb
    obtain ⟨n, hn⟩ := drawDateOf_eq l hl hb
    have hbig : decide ((l.length : Int) > 4096) = false := decide_eq_false (by omega)
    refine ⟨303, ?_⟩
    unfold laws_FnDates.f
    rw [big_eq, hbig]; simp only [Option.bind_some]
    rw [if_neg (by decide), hd _ (by omega), hn _ (by omega)]; simp only [Option.bind_some]
    rw [impl_DayNumber_eq 283, spec_DayNumber_eq 283, impl_WeekdayOf_eq 283, spec_WeekdayOf_eq 283, impl_DayOfYear_eq 283, spec_DayOfYear_eq 283, impl_IsDate_eq 302]
    simp only [Option.bind_some, if_true]
    have hj := dates_j1 0 y m d
    have hf : (decide (dat y m d) != ((if dat y m d then (num y m d, 0) else ((0, 1) : Int × Int)).2 == 0)) = false := by
      by_cases h : dat y m d
      · rw [if_pos h, decide_eq_true h]; rfl
      · rw [if_neg h, decide_eq_false h]; rfl
    rw [hf]
    by_cases h : isN n
    · obtain ⟨y2, m2, d2, h2, hn2⟩ := date_of n h
      rw [spec_DateOf_yes 3 h2 hn2 h, impl_DateOf_yes 3 h2 hn2 h]; simp only [Option.bind_some, if_true, beq_self_eq_true, Bool.not_true, Bool.or_self, Bool.false_eq_true, if_false]
      show laws_FnDates.j0 (302 + 1) _ _ n 0 _ _ false y m d y2 m2 d2 = some true
      simp only [laws_FnDates.j0]
      rw [if_neg (by decide)]; simp only [if_true]
      rw [impl_DayNumber_eq 282, if_pos h2, hn2]; simp only [Option.bind_some, if_true]
      exact hj
    · rw [spec_DateOf_no 3 n h, impl_DateOf_no 3 n h]; simp only [Option.bind_some, if_true, beq_self_eq_true, Bool.not_true, Bool.or_self, Bool.false_eq_true, if_false]
      show laws_FnDates.j0 (302 + 1) _ _ n 4 _ _ false y m d 0 0 0 = some true
      simp only [laws_FnDates.j0]
      rw [if_neg (by decide), if_neg (by decide)]
      exact hj
  · have hbig : decide ((l.length : Int) > 4096) = true := decide_eq_true (by omega)
    refine ⟨1, ?_⟩
    unfold laws_FnDates.f
    rw [big_eq, hbig]; rfl

end Go.Proofs.Ytcnaocjhfgnphaa.Pure
