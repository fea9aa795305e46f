/- Proved: for every argument the law FnExactDateOf returns true. Conditions: none. -/
import Derived.Test.YtboccnkleaiclaaQFnExactDateOfx2
namespace Go.Proofs.Ytboccnkleaiclaa.Pure
open Go.RowKit Go.Proofs.Ytboccnkleaiclaa.PFnExactDateOf Go.Proofs.YtboccnkleaiclaaW.PrintWords Go.Proofs.YtboccnkleaiclaaW.PrintLast Go.Proofs.YtboccnkleaiclaaW.PrintMore
set_option linter.unusedVariables false
set_option linter.unusedSimpArgs false

theorem wid (n : Int) (h0 : -9223372036854775808 ≤ n) (h1 : n ≤ 9223372036854775807) : wrap64 n = n := by unfold wrap64; omega

theorem tdivP (a b : Int) (h : 0 ≤ a) : a.tdiv b = a / b := Int.tdiv_eq_ediv_of_nonneg h

/-- Go's truncated quotient and remainder by a positive number, in Lean's floor form. -/
theorem tdiv_pos_spec (a b : Int) (hb : 0 < b) : a.tmod b = (if 0 ≤ a ∨ a % b = 0 then a % b else a % b - b) ∧ a.tdiv b = (if 0 ≤ a ∨ a % b = 0 then a / b else a / b + 1) := by
  have h1 : a.tdiv b = (if 0 ≤ a ∨ a % b = 0 then a / b else a / b + 1) := by
    rw [Int.tdiv_eq_ediv]
    have e : b.sign = 1 := Int.sign_eq_one_of_pos hb
    rw [e]
    have : (b ∣ a) ↔ a % b = 0 := Int.dvd_iff_emod_eq_zero
    by_cases h : 0 ≤ a ∨ a % b = 0
    · rw [if_pos h, if_pos (by rw [this]; exact h)]; omega
    · rw [if_neg h, if_neg (by rw [this]; exact h)]
  refine ⟨?_, h1⟩
  have h2 := Int.mul_tdiv_add_tmod a b
  have h3 := Int.mul_ediv_add_emod a b
  rw [h1] at h2
  by_cases h : 0 ≤ a ∨ a % b = 0
  · rw [if_pos h] at h2 ⊢; omega
  · rw [if_neg h] at h2 ⊢; rw [Int.mul_add] at h2; omega

theorem ediv_range (a b : Int) (hb : 0 < b) (A : Int) (h0 : -A ≤ a) (h1 : a ≤ A) (hA : 0 ≤ A) : -A ≤ a / b ∧ a / b ≤ A := by
  constructor
  · rw [Int.le_ediv_iff_mul_le hb]
    have : -A * b ≤ -A * 1 := by
      have : A * 1 ≤ A * b := Int.mul_le_mul_of_nonneg_left (by omega) hA
      rw [Int.neg_mul, Int.neg_mul]; omega
    omega
  · have : a / b ≤ A / b := Int.ediv_le_ediv hb h1
    have h2 : A / b ≤ A := Int.ediv_le_self _ hA
    omega

theorem impl_in_eq (n lo hi : Int) : impl_in.f n lo hi = some (decide (lo ≤ n ∧ n ≤ hi)) := by
  unfold impl_in.f; by_cases h : n ≥ lo
  · rw [if_pos h]; simp [show lo ≤ n from h]
  · rw [if_neg h]; simp [show ¬ lo ≤ n from h]

theorem spec_in_eq (n lo hi : Int) : spec_l01In.f n lo hi = some (decide (lo ≤ n ∧ n ≤ hi)) := by
  unfold spec_l01In.f; by_cases h : n ≥ lo
  · rw [if_pos h]; simp [show lo ≤ n from h]
  · rw [if_neg h]; simp [show ¬ lo ≤ n from h]

theorem spec_floor_pos (a b : Int) (hb : 0 < b) (h0 : -9223372036854775807 ≤ a) (h1 : a ≤ 9223372036854775807) : spec_l01Floor.f a b = some (a / b) := by
  have hr := ediv_range a b hb 9223372036854775807 h0 h1 (by omega)
  obtain ⟨e1, e2⟩ := tdiv_pos_spec a b hb
  have hm := Int.emod_nonneg a (show b ≠ 0 by omega)
  have hm2 := Int.emod_lt_of_pos a hb
  unfold spec_l01Floor.f
  rw [if_neg (by omega), if_neg (by omega), e1, e2]
  by_cases h : 0 ≤ a ∨ a % b = 0
  · rw [if_pos h, if_pos h, if_neg (by omega), wid _ (by omega) (by omega)]
  · rw [if_neg h, if_neg h, if_pos (by omega)]
    have : a / b + 1 ≤ 0 := by
      have := Int.ediv_neg_of_neg_of_pos (show a < 0 by omega) hb
      omega
    rw [wid (a / b + 1) (by omega) (by omega), wid _ (by omega) (by omega)]; congr 1; omega

theorem spec_floor_neg (a b : Int) (hb : b < 0) (hb1 : -9223372036854775807 ≤ b) (h0 : -9223372036854775807 ≤ a) (h1 : a ≤ 9223372036854775807) : spec_l01Floor.f a b = some ((-a) / (-b)) := by
  have h := spec_floor_pos (-a) (-b) (by omega) (by omega) (by omega)
  unfold spec_l01Floor.f at h ⊢
  rw [if_neg (by omega), if_neg (by omega)] at h
  rw [if_pos hb, wid (-a) (by omega) (by omega), wid (-b) (by omega) (by omega), if_neg (by omega)]; exact h

/-- The floor of a fraction, whatever the sign of its denominator. -/
def flr (a b : Int) : Int := if 0 < b then a / b else (-a) / (-b)

theorem spec_floor_eq (a b : Int) (hb : b ≠ 0) (hb1 : -9223372036854775807 ≤ b) (h0 : -9223372036854775807 ≤ a) (h1 : a ≤ 9223372036854775807) : spec_l01Floor.f a b = some (flr a b) := by
  unfold flr; by_cases h : 0 < b
  · rw [if_pos h, spec_floor_pos a b h h0 h1]
  · rw [if_neg h, spec_floor_neg a b (by omega) hb1 h0 h1]

theorem flr_range (a b : Int) (hb : b ≠ 0) (A : Int) (h0 : -A ≤ a) (h1 : a ≤ A) (hA : 0 ≤ A) : -A ≤ flr a b ∧ flr a b ≤ A := by
  unfold flr; by_cases h : 0 < b
  · rw [if_pos h]; exact ediv_range a b h A h0 h1 hA
  · rw [if_neg h]; exact ediv_range (-a) (-b) (by omega) A (by omega) (by omega) hA

theorem spec_ceil_eq (a b : Int) (hb : b ≠ 0) (hb1 : -9223372036854775807 ≤ b) (h0 : -9223372036854775807 ≤ a) (h1 : a ≤ 9223372036854775807) : spec_l01Ceil.f a b = some (-(flr (-a) b)) := by
  have := flr_range (-a) b hb 9223372036854775807 (by omega) (by omega) (by omega)
  unfold spec_l01Ceil.f; rw [wid (-a) (by omega) (by omega), spec_floor_eq (-a) b hb hb1 (by omega) (by omega)]; simp only [Option.bind_some]; rw [wid _ (by omega) (by omega)]

theorem bind_dec {α : Type} (p : Prop) [Decidable p] (A : Option α) (B : α) : ((some (decide p)).bind fun t => if t = true then A else some B) = if p then A else some B := by
  by_cases h : p <;> simp [h]

theorem flr_pos (a b : Int) (h : 0 < b) : flr a b = a / b := by unfold flr; rw [if_pos h]

def dim (y m : Int) : Int := if m = 2 then (if y % 4 = 0 then 29 else 28) else if m = 4 ∨ m = 6 ∨ m = 9 ∨ m = 11 then 30 else 31

theorem tmod4 (y : Int) : Int.tmod y 4 = 0 ↔ y % 4 = 0 := by
  obtain ⟨e, _⟩ := tdiv_pos_spec y 4 (by omega)
  rw [e]; by_cases h : 0 ≤ y ∨ y % 4 = 0
  · rw [if_pos h]
  · rw [if_neg h]; omega

theorem spec_days_eq (y m : Int) : spec_l07Days.f y m = some (dim y m) := by
  unfold spec_l07Days.f dim
  by_cases h2 : m = 2
  · rw [if_pos h2, if_pos h2]; by_cases h : y % 4 = 0
    · rw [if_pos h, if_pos ((tmod4 y).2 h)]
    · rw [if_neg h, if_neg (fun k => h ((tmod4 y).1 k))]
  · rw [if_neg h2, if_neg h2]
    by_cases h4 : m = 4
    · rw [if_pos h4, if_pos (.inl h4)]
    · by_cases h6 : m = 6
      · rw [if_neg h4, if_pos h6, if_pos (.inr (.inl h6))]
      · by_cases h9 : m = 9
        · rw [if_neg h4, if_neg h6, if_pos h9, if_pos (.inr (.inr (.inl h9)))]
        · by_cases h11 : m = 11
          · rw [if_neg h4, if_neg h6, if_neg h9, if_pos h11, if_pos (.inr (.inr (.inr h11)))]
          · rw [if_neg h4, if_neg h6, if_neg h9, if_neg h11, if_neg (by omega)]

theorem impl_days_eq (k : Nat) (y m : Int) : impl_daysInMonth.f (k + 1) y m = some (dim y m) := by
  unfold impl_daysInMonth.f dim
  simp only [impl_daysInMonth.j0]
  by_cases h4 : m = 4
  · subst h4; simp
  · by_cases h6 : m = 6
    · subst h6; simp
    · by_cases h9 : m = 9
      · subst h9; simp
      · by_cases h11 : m = 11
        · subst h11; simp
        · rw [if_neg h4, if_neg h6, if_neg h9, if_neg (by simpa using h11)]
          by_cases h2 : m = 2
          · rw [if_pos h2, if_pos h2]; by_cases h : y % 4 = 0
            · rw [if_pos h, if_pos ((tmod4 y).2 h)]
            · rw [if_neg h, if_neg (fun k => h ((tmod4 y).1 k))]
          · rw [if_neg h2, if_neg h2, if_neg (by omega)]

abbrev mon (y m : Int) : Prop := (1901 ≤ y ∧ y ≤ 2099) ∧ (1 ≤ m ∧ m ≤ 12)

abbrev dat (y m d : Int) : Prop := mon y m ∧ (1 ≤ d ∧ d ≤ dim y m)

/-- The number of January 1 of a year; the days of a year's first n months; the number of a date. -/
def yr (y : Int) : Int := 365 * (y - 2000) - (2000 - y) / 4

def cum (y : Int) : Nat → Int
  | 0 => 0
  | n + 1 => cum y n + dim y ((n : Int) + 1)

def num (y m d : Int) : Int := yr y + d - 1 + cum y (m - 1).toNat

theorem dim_range (y m : Int) : 28 ≤ dim y m ∧ dim y m ≤ 31 := by
  unfold dim; repeat' split
  all_goals omega

theorem cum_succ (y j : Int) (h : 1 ≤ j) : cum y j.toNat = cum y (j - 1).toNat + dim y j := by
  obtain ⟨n, rfl⟩ : ∃ n : Nat, j = (n : Int) + 1 := ⟨(j - 1).toNat, by omega⟩
  rw [show ((n : Int) + 1).toNat = n + 1 by omega, show ((n : Int) + 1 - 1).toNat = n by omega]; rfl

theorem cum_range (y : Int) : ∀ n : Nat, 28 * (n : Int) ≤ cum y n ∧ cum y n ≤ 31 * (n : Int)
  | 0 => by simp [cum]
  | n + 1 => by
    have := cum_range y n; have := dim_range y ((n : Int) + 1)
    simp only [cum]; omega

theorem cum_mono (y : Int) : ∀ (k n : Nat), cum y n ≤ cum y (n + k)
  | 0, n => by simp
  | k + 1, n => by
    have := cum_mono y k n; have := dim_range y (((n + k : Nat) : Int) + 1)
    rw [show n + (k + 1) = (n + k) + 1 by omega]; simp only [cum]; omega

theorem dim2 (y : Int) : dim y 2 = if y % 4 = 0 then 29 else 28 := by unfold dim; rw [if_pos rfl]

theorem cum12 (y : Int) : cum y 12 = if y % 4 = 0 then 366 else 365 := by
  have d1 : dim y 1 = 31 := rfl
  have d3 : dim y 3 = 31 := rfl
  have d4 : dim y 4 = 30 := rfl
  have d5 : dim y 5 = 31 := rfl
  have d6 : dim y 6 = 30 := rfl
  have d7 : dim y 7 = 31 := rfl
  have d8 : dim y 8 = 31 := rfl
  have d9 : dim y 9 = 30 := rfl
  have d10 : dim y 10 = 31 := rfl
  have d11 : dim y 11 = 30 := rfl
  have d12 : dim y 12 = 31 := rfl
  have e : cum y 12 = 0 + dim y 1 + dim y 2 + dim y 3 + dim y 4 + dim y 5 + dim y 6 + dim y 7 + dim y 8 + dim y 9 + dim y 10 + dim y 11 + dim y 12 := rfl
  have d2 := dim2 y
  rw [e, d1, d3, d4, d5, d6, d7, d8, d9, d10, d11, d12, d2]
  split <;> rfl

theorem yr_succ (y : Int) : yr (y + 1) = yr y + cum y 12 := by
  rw [cum12]; unfold yr; split <;> omega

theorem yr_mono (a b : Int) (h : a ≤ b) : yr a ≤ yr b := by unfold yr; omega

theorem spec_year_eq (y : Int) (h0 : -1000000 ≤ y) (h1 : y ≤ 1000000) : spec_l07Year.f y = some (yr y) := by
  unfold spec_l07Year.f yr
  rw [wid (y - 2000) (by omega) (by omega), spec_ceil_eq _ _ (by omega) (by omega) (by omega) (by omega), flr_pos _ _ (by omega)]; simp only [Option.bind_some]
  rw [wid (365 * (y - 2000)) (by omega) (by omega), wid _ (by omega) (by omega)]; congr 1; omega

theorem impl_number_loop (y m d : Int) (hm : m ≤ 12) : ∀ (t : Nat) (n j : Int), 1 ≤ j → m - j ≤ t → j ≤ m → -1000000 ≤ n → n ≤ 1000000 + 31 * j → ∀ k, t + 1 < k → impl_dayNumber.l0 k n j y m d = some (n + cum y (m - 1).toNat - cum y (j - 1).toNat) := by
  intro t
  induction t with
  | zero =>
    intro n j hj ht hjm hn hn1 k hk
    obtain ⟨k, rfl⟩ : ∃ z, k = z + 1 := ⟨k - 1, by omega⟩
    obtain rfl : j = m := by omega
    simp only [impl_dayNumber.l0]; rw [if_neg (by omega)]; congr 1; omega
  | succ t ih =>
    intro n j hj ht hjm hn hn1 k hk
    obtain ⟨k, rfl⟩ : ∃ z, k = z + 1 := ⟨k - 1, by omega⟩
    simp only [impl_dayNumber.l0]
    by_cases h : j < m
    · have := dim_range y j
      have := cum_succ y j hj
      have hd : impl_daysInMonth.f k y j = some (dim y j) := by
        obtain ⟨k, rfl⟩ : ∃ z, k = z + 1 := ⟨k - 1, by omega⟩
        exact impl_days_eq k y j
      rw [if_pos h, hd]; simp only [Option.bind_some]
      rw [wid (n + dim y j) (by omega) (by omega), wid (j + 1) (by omega) (by omega), ih (n + dim y j) (j + 1) (by omega) (by omega) (by omega) (by omega) (by omega) k (by omega), show j + 1 - 1 = j by omega]
      congr 1; omega
    · obtain rfl : j = m := by omega
      rw [if_neg h]; congr 1; omega

theorem yr_range (y : Int) (h0 : 1900 ≤ y) (h1 : y ≤ 2101) : -36600 ≤ yr y ∧ yr y ≤ 37000 := by unfold yr; omega

theorem impl_number_eq (y m d : Int) (h0 : 1901 ≤ y) (h1 : y ≤ 2101) (hm0 : 1 ≤ m) (hm1 : m ≤ 12) (hd0 : -1000 ≤ d) (hd1 : d ≤ 1000) (k : Nat) (hk : 13 < k) : impl_dayNumber.f k y m d = some (num y m d) := by
  have := yr_range y (by omega) h1
  have e : -36159 + 365 * (y - 1901) + (y - 1901) / 4 = yr y := by unfold yr; omega
  unfold impl_dayNumber.f num
  rw [wid (y - 1901) (by omega) (by omega), tdivP _ _ (by omega), wid (365 * (y - 1901)) (by omega) (by omega), wid ((y - 1901) / 4) (by omega) (by omega), wid (-36159 + 365 * (y - 1901)) (by omega) (by omega), e,
    wid (yr y) (by omega) (by omega), wid (yr y + d) (by omega) (by omega), wid (yr y + d - 1) (by omega) (by omega), impl_number_loop y m d hm1 12 _ 1 (by omega) (by omega) hm0 (by omega) (by omega) k (by omega)]
  simp [cum]

theorem dat_bounds {y m d : Int} (h : dat y m d) : 1901 ≤ y ∧ y ≤ 2099 ∧ 1 ≤ m ∧ m ≤ 12 ∧ 1 ≤ d ∧ d ≤ 31 := by
  have := dim_range y m; omega

theorem num_range {y m d : Int} (h0 : 1900 ≤ y) (h1 : y ≤ 2101) (hm0 : 1 ≤ m) (hm1 : m ≤ 12) (hd0 : 0 ≤ d) (hd1 : d ≤ 31) : -40000 ≤ num y m d ∧ num y m d ≤ 40000 := by
  have := yr_range y h0 h1
  have := cum_range y (m - 1).toNat
  unfold num; omega

theorem num_first (y : Int) : num y 1 1 = yr y := by unfold num; simp [cum]

/-- Whether a number is that of a date: the first one's is yr 1901, the last one's the one ahead of yr 2100. -/
abbrev isN (n : Int) : Prop := -36159 ≤ n ∧ n ≤ 36524

theorem yr_1901 : yr 1901 = -36159 := by decide

theorem yr_2100 : yr 2100 = 36525 := by decide

theorem num_last : num 2099 12 31 = 36524 := by decide

theorem num_1901 : num 1901 1 1 = -36159 := by decide

theorem impl_isDayNumber_eq (k : Nat) (n : Int) : impl_isDayNumber.f (k + 20) n = some (decide (isN n)) := by
  unfold impl_isDayNumber.f
  rw [impl_number_eq 1901 1 1 (by omega) (by omega) (by omega) (by omega) (by omega) (by omega) _ (by omega), impl_number_eq 2099 12 31 (by omega) (by omega) (by omega) (by omega) (by omega) (by omega) _ (by omega), num_last, num_1901]; simp only [Option.bind_some]
  rw [impl_in_eq]; rfl

theorem spec_has_eq (n : Int) : spec_l07Has.f n = some (decide (isN n)) := by
  unfold spec_l07Has.f
  rw [spec_year_eq 1901 (by omega) (by omega), spec_year_eq 2100 (by omega) (by omega), yr_1901, yr_2100]; simp only [Option.bind_some]
  rw [wid (36525 - 1) (by omega) (by omega), spec_in_eq]; rfl

/-- Each number between the first and the last has a date. -/
theorem year_of (n : Int) (h0 : yr 1901 ≤ n) : ∀ j : Nat, n < yr (1901 + j) → ∃ y : Int, 1901 ≤ y ∧ y < 1901 + j ∧ yr y ≤ n ∧ n < yr (y + 1)
  | 0, h => by simp at h; omega
  | j + 1, h => by
    by_cases c : n < yr (1901 + j)
    · obtain ⟨y, a, b, c, d⟩ := year_of n h0 j c
      exact ⟨y, a, by omega, c, d⟩
    · exact ⟨1901 + (j : Int), by omega, by omega, by omega, by rw [show (1901 + (j : Int)) + 1 = 1901 + ((j + 1 : Nat) : Int) by omega]; exact h⟩

theorem month_of (y r : Int) (h0 : 0 ≤ r) : ∀ j : Nat, r < cum y j → ∃ m : Int, 1 ≤ m ∧ m ≤ j ∧ cum y (m - 1).toNat ≤ r ∧ r < cum y m.toNat
  | 0, h => by simp [cum] at h; omega
  | j + 1, h => by
    by_cases c : r < cum y j
    · obtain ⟨m, a, b, c, d⟩ := month_of y r h0 j c
      exact ⟨m, a, by omega, c, d⟩
    · exact ⟨(j : Int) + 1, by omega, by omega, by rw [show ((j : Int) + 1 - 1).toNat = j by omega]; omega, by rw [show ((j : Int) + 1).toNat = j + 1 by omega]; exact h⟩

theorem date_of (n : Int) (h : isN n) : ∃ y m d, dat y m d ∧ num y m d = n := by
  obtain ⟨y, y0, y1, y2, y3⟩ := year_of n (by rw [yr_1901]; omega) 199 (by rw [show (1901 : Int) + (199 : Nat) = 2100 by omega, yr_2100]; omega)
  obtain ⟨m, m0, m1, m2, m3⟩ := month_of y (n - yr y) (by omega) 12 (by rw [yr_succ] at y3; omega)
  have := cum_succ y m m0
  exact ⟨y, m, n - yr y - cum y (m - 1).toNat + 1, ⟨⟨⟨y0, by omega⟩, ⟨m0, by omega⟩⟩, by omega, by omega⟩, by unfold num; omega⟩

/-- What a date's number says of its year and month. -/
theorem date_year {y m d n : Int} (h : dat y m d) (hn : num y m d = n) : yr y ≤ n ∧ n < yr (y + 1) := by
  obtain ⟨b0, b1, b2, b3, b4, b5⟩ := dat_bounds h
  have c0 := cum_succ y m b2
  have c1 := cum_range y (m - 1).toNat
  have c2 := cum_mono y (12 - m).toNat m.toNat
  rw [show m.toNat + (12 - m).toNat = 12 by omega] at c2
  have := yr_succ y
  unfold num at hn; omega

theorem cum_le (y a b : Int) (h0 : 0 ≤ a) (h : a ≤ b) : cum y a.toNat ≤ cum y b.toNat := by
  have := cum_mono y (b - a).toNat a.toNat
  rwa [show a.toNat + (b - a).toNat = b.toNat by omega] at this

theorem spec_date_months {y m d n : Int} (h : dat y m d) (hn : num y m d = n) : ∀ (t : Nat) (j : Int), 1 ≤ j → j ≤ m → m - j ≤ t → ∀ k, t < k → spec_l07Date.l1 k y (n - yr y - cum y (j - 1).toNat) j = some (y, m, d) := by
  obtain ⟨b0, b1, b2, b3, b4, b5⟩ := dat_bounds h
  have hy := yr_range y (by omega) (by omega)
  have hc := cum_range y (m - 1).toNat
  intro t
  induction t with
  | zero =>
    intro j j0 j1 j2 k hk
    obtain ⟨k, rfl⟩ : ∃ z, k = z + 1 := ⟨k - 1, by omega⟩
    obtain rfl : j = m := by omega
    have e : n - yr y - cum y (j - 1).toNat = d - 1 := by unfold num at hn; omega
    simp only [spec_l07Date.l1]; rw [e, spec_days_eq]; simp only [Option.bind_some]
    rw [if_neg (by omega), wid _ (by omega) (by omega)]; simp
  | succ t ih =>
    intro j j0 j1 j2 k hk
    obtain ⟨k, rfl⟩ : ∃ z, k = z + 1 := ⟨k - 1, by omega⟩
    by_cases c : j = m
    · subst c
      have e : n - yr y - cum y (j - 1).toNat = d - 1 := by unfold num at hn; omega
      simp only [spec_l07Date.l1]; rw [e, spec_days_eq]; simp only [Option.bind_some]
      rw [if_neg (by omega), wid _ (by omega) (by omega)]; simp
    · have c1 := cum_succ y j j0
      have c2 := cum_le y j (m - 1) (by omega) (by omega)
      have c3 := cum_range y (j - 1).toNat
      have c4 := dim_range y j
      simp only [spec_l07Date.l1]; rw [spec_days_eq]; simp only [Option.bind_some]
      rw [if_pos (by unfold num at hn; omega), wid (n - yr y - cum y (j - 1).toNat - dim y j) (by unfold num at hn; omega) (by unfold num at hn; omega), wid (j + 1) (by omega) (by omega)]
      have := ih (j + 1) (by omega) (by omega) (by omega) k (by omega)
      rw [show j + 1 - 1 = j by omega, c1] at this
      rw [show n - yr y - cum y (j - 1).toNat - dim y j = n - yr y - (cum y (j - 1).toNat + dim y j) by omega]; exact this

theorem spec_date_years {y m d n : Int} (h : dat y m d) (hn : num y m d = n) : ∀ (t : Nat) (j : Int), 1901 ≤ j → j ≤ y → y - j ≤ t → ∀ k, t + 13 < k → spec_l07Date.l0 k n j = some (y, m, d) := by
  obtain ⟨b0, b1, b2, b3, b4, b5⟩ := dat_bounds h
  obtain ⟨g0, g1⟩ := date_year h hn
  have hend : ∀ k, 13 < k → spec_l07Date.l0 k n y = some (y, m, d) := by
    intro k hk
    obtain ⟨k, rfl⟩ : ∃ z, k = z + 1 := ⟨k - 1, by omega⟩
    have hy := yr_range y (by omega) (by omega)
    have hy1 := yr_range (y + 1) (by omega) (by omega)
    simp only [spec_l07Date.l0]
    rw [wid (y + 1) (by omega) (by omega), spec_year_eq (y + 1) (by omega) (by omega), spec_year_eq y (by omega) (by omega)]; simp only [Option.bind_some]
    rw [if_neg (by omega), wid (n - yr y) (by omega) (by omega)]
    have := spec_date_months h hn 12 1 (by omega) (by omega) (by omega) k (by omega)
    simpa [cum] using this
  intro t
  induction t with
  | zero =>
    intro j j0 j1 j2 k hk
    obtain rfl : j = y := by omega
    exact hend k (by omega)
  | succ t ih =>
    intro j j0 j1 j2 k hk
    by_cases c : j = y
    · subst c; exact hend k (by omega)
    · obtain ⟨k, rfl⟩ : ∃ z, k = z + 1 := ⟨k - 1, by omega⟩
      have := yr_mono (j + 1) y (by omega)
      simp only [spec_l07Date.l0]
      rw [wid (j + 1) (by omega) (by omega), spec_year_eq (j + 1) (by omega) (by omega)]; simp only [Option.bind_some]
      rw [if_pos (by omega)]
      exact ih (j + 1) (by omega) (by omega) (by omega) k (by omega)

theorem impl_date_months {y m d n : Int} (h : dat y m d) (hn : num y m d = n) : ∀ (t : Nat) (j : Int), 1 ≤ j → j ≤ m → m - j ≤ t → ∀ k, t + 14 < k → impl_dateOf.l1 k n y j = some (y, m, d) := by
  obtain ⟨b0, b1, b2, b3, b4, b5⟩ := dat_bounds h
  have hy := yr_range y (by omega) (by omega)
  have hc := cum_range y (m - 1).toNat
  have hn1 := num_range (y := y) (m := m) (d := 1) (by omega) (by omega) (by omega) (by omega) (by omega) (by omega)
  have hnm : n - num y m 1 + 1 = d := by unfold num at hn ⊢; omega
  have hend : ∀ k, 14 < k → impl_dateOf.l1 k n y m = some (y, m, d) := by
    intro k hk
    obtain ⟨k, rfl⟩ : ∃ z, k = z + 1 := ⟨k - 1, by omega⟩
    simp only [impl_dateOf.l1]
    rw [impl_number_eq y m 1 (by omega) (by omega) (by omega) (by omega) (by omega) (by omega) k (by omega)]; simp only [Option.bind_some]
    rw [wid (n - num y m 1) (by omega) (by omega), wid (n - num y m 1 + 1) (by omega) (by omega), hnm]
    by_cases c : m < 12
    · have := cum_succ y m b2
      rw [if_pos c, wid (m + 1) (by omega) (by omega), impl_number_eq y (m + 1) 1 (by omega) (by omega) (by omega) (by omega) (by omega) (by omega) k (by omega)]; simp only [Option.bind_some]
      rw [if_neg]
      unfold num at hn ⊢; rw [show m + 1 - 1 = m by omega]; omega
    · rw [if_neg c]
  intro t
  induction t with
  | zero =>
    intro j j0 j1 j2 k hk
    obtain rfl : j = m := by omega
    exact hend k (by omega)
  | succ t ih =>
    intro j j0 j1 j2 k hk
    by_cases c : j = m
    · subst c; exact hend k (by omega)
    · obtain ⟨k, rfl⟩ : ∃ z, k = z + 1 := ⟨k - 1, by omega⟩
      have c2 := cum_le y j (m - 1) (by omega) (by omega)
      simp only [impl_dateOf.l1]
      rw [if_pos (by omega), wid (j + 1) (by omega) (by omega), impl_number_eq y (j + 1) 1 (by omega) (by omega) (by omega) (by omega) (by omega) (by omega) k (by omega)]; simp only [Option.bind_some]
      rw [if_pos]
      · exact ih (j + 1) (by omega) (by omega) (by omega) k (by omega)
      · unfold num at hn ⊢; rw [show j + 1 - 1 = j by omega]; omega

theorem impl_date_years {y m d n : Int} (h : dat y m d) (hn : num y m d = n) : ∀ (t : Nat) (j : Int), 1901 ≤ j → j ≤ y → y - j ≤ t → ∀ k, t + 30 < k → impl_dateOf.l0 k n j = some (y, m, d) := by
  obtain ⟨b0, b1, b2, b3, b4, b5⟩ := dat_bounds h
  obtain ⟨g0, g1⟩ := date_year h hn
  have hj : ∀ k, 28 < k → impl_dateOf.j1 k n y = some (y, m, d) := by
    intro k hk
    obtain ⟨k, rfl⟩ : ∃ z, k = z + 1 := ⟨k - 1, by omega⟩
    simp only [impl_dateOf.j1]
    exact impl_date_months h hn 12 1 (by omega) (by omega) (by omega) k (by omega)
  have hend : ∀ k, 29 < k → impl_dateOf.l0 k n y = some (y, m, d) := by
    intro k hk
    obtain ⟨k, rfl⟩ : ∃ z, k = z + 1 := ⟨k - 1, by omega⟩
    simp only [impl_dateOf.l0]
    by_cases c : y < 2099
    · rw [if_pos c, wid (y + 1) (by omega) (by omega), impl_number_eq (y + 1) 1 1 (by omega) (by omega) (by omega) (by omega) (by omega) (by omega) k (by omega), num_first]; simp only [Option.bind_some]
      rw [if_neg (by omega)]; exact hj k (by omega)
    · rw [if_neg c]; exact hj k (by omega)
  intro t
  induction t with
  | zero =>
    intro j j0 j1 j2 k hk
    obtain rfl : j = y := by omega
    exact hend k (by omega)
  | succ t ih =>
    intro j j0 j1 j2 k hk
    by_cases c : j = y
    · subst c; exact hend k (by omega)
    · obtain ⟨k, rfl⟩ : ∃ z, k = z + 1 := ⟨k - 1, by omega⟩
      have := yr_mono (j + 1) y (by omega)
      simp only [impl_dateOf.l0]
      rw [if_pos (by omega), wid (j + 1) (by omega) (by omega), impl_number_eq (j + 1) 1 1 (by omega) (by omega) (by omega) (by omega) (by omega) (by omega) k (by omega), num_first]; simp only [Option.bind_some]
      rw [if_pos (by omega)]
      exact ih (j + 1) (by omega) (by omega) (by omega) k (by omega)

theorem spec_DateOf_yes (k : Nat) {y m d n : Int} (h : dat y m d) (hn : num y m d = n) (hi : isN n) : spec_DateOf.f (k + 300) n = some (y, m, d, 0) := by
  obtain ⟨b0, b1, b2, b3, b4, b5⟩ := dat_bounds h
  unfold spec_DateOf.f spec_l07Date.f
  rw [spec_has_eq, bind_dec, if_pos hi, spec_date_years h hn 200 1901 (by omega) (by omega) (by omega) _ (by omega)]; rfl

theorem impl_DateOf_yes (k : Nat) {y m d n : Int} (h : dat y m d) (hn : num y m d = n) (hi : isN n) : impl_DateOf.f (k + 300) n = some (y, m, d, 0) := by
  obtain ⟨b0, b1, b2, b3, b4, b5⟩ := dat_bounds h
  unfold impl_DateOf.f impl_dateOf.f
  rw [impl_isDayNumber_eq (k + 280), bind_dec, if_pos hi, impl_date_years h hn 200 1901 (by omega) (by omega) (by omega) _ (by omega)]; rfl

theorem spec_DateOf_no (k : Nat) (n : Int) (hi : ¬ isN n) : spec_DateOf.f (k + 300) n = some (0, 0, 0, 4) := by
  unfold spec_DateOf.f; rw [spec_has_eq, bind_dec, if_neg hi]

theorem impl_DateOf_no (k : Nat) (n : Int) (hi : ¬ isN n) : impl_DateOf.f (k + 300) n = some (0, 0, 0, 4) := by
  unfold impl_DateOf.f; rw [impl_isDayNumber_eq (k + 280), bind_dec, if_neg hi]

theorem eqDate_refl (a b c : Int) : laws_eqDate.f a b c a b c = some true := by
  unfold laws_eqDate.f; rw [if_pos rfl, if_pos rfl, if_pos rfl]

theorem FnExactDateOf : laws_FnExactDateOf.Pure := by
  intro n _
  refine ⟨300, ?_⟩
  unfold laws_FnExactDateOf.f
  by_cases h : isN n
  · obtain ⟨y, m, d, hd, hn⟩ := date_of n h
    rw [spec_DateOf_yes 0 hd hn h, impl_DateOf_yes 0 hd hn h]; simp only [Option.bind_some, eqDate_refl, if_true]
  · rw [spec_DateOf_no 0 n h, impl_DateOf_no 0 n h]; simp only [Option.bind_some, eqDate_refl, if_true]

end Go.Proofs.Ytboccnkleaiclaa.Pure
