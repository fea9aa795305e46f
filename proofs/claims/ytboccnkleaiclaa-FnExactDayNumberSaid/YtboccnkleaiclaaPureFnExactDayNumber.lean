/- Proved: for every date the law FnExactDayNumber returns true. Conditions: none. -/
import Derived.Test.YtboccnkleaiclaaQFnExactDayNumberx2
namespace Go.Proofs.Ytboccnkleaiclaa.Pure
open Go.RowKit Go.Proofs.Ytboccnkleaiclaa.PFnExactDayNumber Go.Proofs.YtboccnkleaiclaaW.PrintWords Go.Proofs.YtboccnkleaiclaaW.PrintLast Go.Proofs.YtboccnkleaiclaaW.PrintMore
set_option linter.unusedVariables false
set_option linter.unusedSimpArgs false

theorem wid (n : Int) (h0 : -9223372036854775808 ≤ n) (h1 : n ≤ 9223372036854775807) : wrap64 n = n := by unfold wrap64; omega

theorem tdivP (a b : Int) (h : 0 ≤ a) : a.tdiv b = a / b := Int.tdiv_eq_ediv_of_nonneg h

/-- Go's truncated quotient and remainder by a positive number, in Lean's floor form. -/
theorem tdiv_pos_spec (a b : Int) (hb : 0 < b) : a.tmod b = (if 0 ≤ a ∨ a % b = 0 then a % b else a % b - b) ∧ a.tdiv b = (if 0 ≤ a ∨ a % b = 0 then a / b else a / b + 1) := by
  have h1 : a.tdiv b = (if 0 ≤ a ∨ a % b = 0 then a / b else a / b + 1) := by
    rw [Int.tdiv_eq_ediv]
    have e : b.sign = 1 := Int.sign_eq_one_of_pos hb
    rw [e]
    have : (b ∣ a) ↔ a % b = 0 := Int.dvd_iff_emod_eq_zero
    by_cases h : 0 ≤ a ∨ a % b = 0
    · rw [if_pos h, if_pos (by rw [this]; exact h)]; omega
    · rw [if_neg h, if_neg (by rw [this]; exact h)]
  refine ⟨?_, h1⟩
  have h2 := Int.mul_tdiv_add_tmod a b
  have h3 := Int.mul_ediv_add_emod a b
  rw [h1] at h2
  by_cases h : 0 ≤ a ∨ a % b = 0
  · rw [if_pos h] at h2 ⊢; omega
  · rw [if_neg h] at h2 ⊢; rw [Int.mul_add] at h2; omega

theorem ediv_range (a b : Int) (hb : 0 < b) (A : Int) (h0 : -A ≤ a) (h1 : a ≤ A) (hA : 0 ≤ A) : -A ≤ a / b ∧ a / b ≤ A := by
  constructor
  · rw [Int.le_ediv_iff_mul_le hb]
    have : -A * b ≤ -A * 1 := by
      have : A * 1 ≤ A * b := Int.mul_le_mul_of_nonneg_left (by omega) hA
      rw [Int.neg_mul, Int.neg_mul]; omega
    omega
  · have : a / b ≤ A / b := Int.ediv_le_ediv hb h1
    have h2 : A / b ≤ A := Int.ediv_le_self _ hA
    omega

theorem impl_in_eq (n lo hi : Int) : impl_in.f n lo hi = some (decide (lo ≤ n ∧ n ≤ hi)) := by
  unfold impl_in.f; by_cases h : n ≥ lo
  · rw [if_pos h]; simp [show lo ≤ n from h]
  · rw [if_neg h]; simp [show ¬ lo ≤ n from h]

theorem spec_in_eq (n lo hi : Int) : spec_l01In.f n lo hi = some (decide (lo ≤ n ∧ n ≤ hi)) := by
  unfold spec_l01In.f; by_cases h : n ≥ lo
  · rw [if_pos h]; simp [show lo ≤ n from h]
  · rw [if_neg h]; simp [show ¬ lo ≤ n from h]

theorem spec_floor_pos (a b : Int) (hb : 0 < b) (h0 : -9223372036854775807 ≤ a) (h1 : a ≤ 9223372036854775807) : spec_l01Floor.f a b = some (a / b) := by
  have hr := ediv_range a b hb 9223372036854775807 h0 h1 (by omega)
  obtain ⟨e1, e2⟩ := tdiv_pos_spec a b hb
  have hm := Int.emod_nonneg a (show b ≠ 0 by omega)
  have hm2 := Int.emod_lt_of_pos a hb
  unfold spec_l01Floor.f
  rw [if_neg (by omega), if_neg (by omega), e1, e2]
  by_cases h : 0 ≤ a ∨ a % b = 0
  · rw [if_pos h, if_pos h, if_neg (by omega), wid _ (by omega) (by omega)]
  · rw [if_neg h, if_neg h, if_pos (by omega)]
    have : a / b + 1 ≤ 0 := by
      have := Int.ediv_neg_of_neg_of_pos (show a < 0 by omega) hb
      omega
    rw [wid (a / b + 1) (by omega) (by omega), wid _ (by omega) (by omega)]; congr 1; omega

theorem spec_floor_neg (a b : Int) (hb : b < 0) (hb1 : -9223372036854775807 ≤ b) (h0 : -9223372036854775807 ≤ a) (h1 : a ≤ 9223372036854775807) : spec_l01Floor.f a b = some ((-a) / (-b)) := by
  have h := spec_floor_pos (-a) (-b) (by omega) (by omega) (by omega)
  unfold spec_l01Floor.f at h ⊢
  rw [if_neg (by omega), if_neg (by omega)] at h
  rw [if_pos hb, wid (-a) (by omega) (by omega), wid (-b) (by omega) (by omega), if_neg (by omega)]; exact h

/-- The floor of a fraction, whatever the sign of its denominator. -/
def flr (a b : Int) : Int := if 0 < b then a / b else (-a) / (-b)

theorem spec_floor_eq (a b : Int) (hb : b ≠ 0) (hb1 : -9223372036854775807 ≤ b) (h0 : -9223372036854775807 ≤ a) (h1 : a ≤ 9223372036854775807) : spec_l01Floor.f a b = some (flr a b) := by
  unfold flr; by_cases h : 0 < b
  · rw [if_pos h, spec_floor_pos a b h h0 h1]
  · rw [if_neg h, spec_floor_neg a b (by omega) hb1 h0 h1]

theorem flr_range (a b : Int) (hb : b ≠ 0) (A : Int) (h0 : -A ≤ a) (h1 : a ≤ A) (hA : 0 ≤ A) : -A ≤ flr a b ∧ flr a b ≤ A := by
  unfold flr; by_cases h : 0 < b
  · rw [if_pos h]; exact ediv_range a b h A h0 h1 hA
  · rw [if_neg h]; exact ediv_range (-a) (-b) (by omega) A (by omega) (by omega) hA

theorem spec_ceil_eq (a b : Int) (hb : b ≠ 0) (hb1 : -9223372036854775807 ≤ b) (h0 : -9223372036854775807 ≤ a) (h1 : a ≤ 9223372036854775807) : spec_l01Ceil.f a b = some (-(flr (-a) b)) := by
  have := flr_range (-a) b hb 9223372036854775807 (by omega) (by omega) (by omega)
  unfold spec_l01Ceil.f; rw [wid (-a) (by omega) (by omega), spec_floor_eq (-a) b hb hb1 (by omega) (by omega)]; simp only [Option.bind_some]; rw [wid _ (by omega) (by omega)]

theorem bind_dec {α : Type} (p : Prop) [Decidable p] (A : Option α) (B : α) : ((some (decide p)).bind fun t => if t = true then A else some B) = if p then A else some B := by
  by_cases h : p <;> simp [h]

theorem dec_and (p q : Prop) [Decidable p] [Decidable q] : (if decide p = true then some (decide q) else some false) = some (decide (p ∧ q)) := by
  by_cases h : p <;> simp [h]

theorem flr_pos (a b : Int) (h : 0 < b) : flr a b = a / b := by unfold flr; rw [if_pos h]

def dim (y m : Int) : Int := if m = 2 then (if y % 4 = 0 then 29 else 28) else if m = 4 ∨ m = 6 ∨ m = 9 ∨ m = 11 then 30 else 31

theorem tmod4 (y : Int) : Int.tmod y 4 = 0 ↔ y % 4 = 0 := by
  obtain ⟨e, _⟩ := tdiv_pos_spec y 4 (by omega)
  rw [e]; by_cases h : 0 ≤ y ∨ y % 4 = 0
  · rw [if_pos h]
  · rw [if_neg h]; omega

theorem spec_days_eq (y m : Int) : spec_l07Days.f y m = some (dim y m) := by
  unfold spec_l07Days.f dim
  by_cases h2 : m = 2
  · rw [if_pos h2, if_pos h2]; by_cases h : y % 4 = 0
    · rw [if_pos h, if_pos ((tmod4 y).2 h)]
    · rw [if_neg h, if_neg (fun k => h ((tmod4 y).1 k))]
  · rw [if_neg h2, if_neg h2]
    by_cases h4 : m = 4
    · rw [if_pos h4, if_pos (.inl h4)]
    · by_cases h6 : m = 6
      · rw [if_neg h4, if_pos h6, if_pos (.inr (.inl h6))]
      · by_cases h9 : m = 9
        · rw [if_neg h4, if_neg h6, if_pos h9, if_pos (.inr (.inr (.inl h9)))]
        · by_cases h11 : m = 11
          · rw [if_neg h4, if_neg h6, if_neg h9, if_pos h11, if_pos (.inr (.inr (.inr h11)))]
          · rw [if_neg h4, if_neg h6, if_neg h9, if_neg h11, if_neg (by omega)]

theorem impl_days_eq (k : Nat) (y m : Int) : impl_daysInMonth.f (k + 1) y m = some (dim y m) := by
  unfold impl_daysInMonth.f dim
  simp only [impl_daysInMonth.j0]
  by_cases h4 : m = 4
  · subst h4; simp
  · by_cases h6 : m = 6
    · subst h6; simp
    · by_cases h9 : m = 9
      · subst h9; simp
      · by_cases h11 : m = 11
        · subst h11; simp
        · rw [if_neg h4, if_neg h6, if_neg h9, if_neg (by simpa using h11)]
          by_cases h2 : m = 2
          · rw [if_pos h2, if_pos h2]; by_cases h : y % 4 = 0
            · rw [if_pos h, if_pos ((tmod4 y).2 h)]
            · rw [if_neg h, if_neg (fun k => h ((tmod4 y).1 k))]
          · rw [if_neg h2, if_neg h2, if_neg (by omega)]

abbrev mon (y m : Int) : Prop := (1901 ≤ y ∧ y ≤ 2099) ∧ (1 ≤ m ∧ m ≤ 12)

theorem spec_month_eq (y m : Int) : spec_l07Month.f y m = some (decide (mon y m)) := by
  unfold spec_l07Month.f; rw [spec_in_eq, spec_in_eq]; simp only [Option.bind_some, dec_and]

theorem impl_isMonth_eq (y m : Int) : impl_isMonth.f y m = some (decide (mon y m)) := by
  unfold impl_isMonth.f; rw [impl_in_eq, impl_in_eq]; simp only [Option.bind_some, dec_and]

abbrev dat (y m d : Int) : Prop := mon y m ∧ (1 ≤ d ∧ d ≤ dim y m)

theorem spec_IsDate_eq (y m d : Int) : spec_IsDate.f y m d = some (decide (dat y m d)) := by
  unfold spec_IsDate.f; rw [spec_month_eq, spec_days_eq]; simp only [Option.bind_some]; rw [spec_in_eq]; simp only [Option.bind_some, dec_and]

theorem impl_IsDate_eq (k : Nat) (y m d : Int) : impl_IsDate.f (k + 1) y m d = some (decide (dat y m d)) := by
  unfold impl_IsDate.f; rw [impl_isMonth_eq, impl_days_eq]; simp only [Option.bind_some]; rw [impl_in_eq]; simp only [Option.bind_some, dec_and]

/-- The number of January 1 of a year; the days of a year's first n months; the number of a date. -/
def yr (y : Int) : Int := 365 * (y - 2000) - (2000 - y) / 4

def cum (y : Int) : Nat → Int
  | 0 => 0
  | n + 1 => cum y n + dim y ((n : Int) + 1)

def num (y m d : Int) : Int := yr y + d - 1 + cum y (m - 1).toNat

theorem dim_range (y m : Int) : 28 ≤ dim y m ∧ dim y m ≤ 31 := by
  unfold dim; repeat' split
  all_goals omega

theorem cum_succ (y j : Int) (h : 1 ≤ j) : cum y j.toNat = cum y (j - 1).toNat + dim y j := by
  obtain ⟨n, rfl⟩ : ∃ n : Nat, j = (n : Int) + 1 := ⟨(j - 1).toNat, by omega⟩
  rw [show ((n : Int) + 1).toNat = n + 1 by omega, show ((n : Int) + 1 - 1).toNat = n by omega]; rfl

theorem spec_year_eq (y : Int) (h0 : -1000000 ≤ y) (h1 : y ≤ 1000000) : spec_l07Year.f y = some (yr y) := by
  unfold spec_l07Year.f yr
  rw [wid (y - 2000) (by omega) (by omega), spec_ceil_eq _ _ (by omega) (by omega) (by omega) (by omega), flr_pos _ _ (by omega)]; simp only [Option.bind_some]
  rw [wid (365 * (y - 2000)) (by omega) (by omega), wid _ (by omega) (by omega)]; congr 1; omega

theorem spec_number_loop (y m d : Int) (hm : m ≤ 12) : ∀ (t : Nat) (n j : Int), 1 ≤ j → m - j ≤ t → j ≤ m → -1000000 ≤ n → n ≤ 1000000 + 31 * j → ∀ k, t < k → spec_l07Number.l0 k n j y m d = some (n + cum y (m - 1).toNat - cum y (j - 1).toNat) := by
  intro t
  induction t with
  | zero =>
    intro n j hj ht hjm hn hn1 k hk
    obtain ⟨k, rfl⟩ : ∃ z, k = z + 1 := ⟨k - 1, by omega⟩
    obtain rfl : j = m := by omega
    simp only [spec_l07Number.l0]; rw [if_neg (by omega)]; congr 1; omega
  | succ t ih =>
    intro n j hj ht hjm hn hn1 k hk
    obtain ⟨k, rfl⟩ : ∃ z, k = z + 1 := ⟨k - 1, by omega⟩
    simp only [spec_l07Number.l0]
    by_cases h : j < m
    · have := dim_range y j
      have := cum_succ y j hj
      rw [if_pos h, spec_days_eq]; simp only [Option.bind_some]
      rw [wid (n + dim y j) (by omega) (by omega), wid (j + 1) (by omega) (by omega), ih (n + dim y j) (j + 1) (by omega) (by omega) (by omega) (by omega) (by omega) k (by omega), show j + 1 - 1 = j by omega]
      congr 1; omega
    · obtain rfl : j = m := by omega
      rw [if_neg h]; congr 1; omega

theorem impl_number_loop (y m d : Int) (hm : m ≤ 12) : ∀ (t : Nat) (n j : Int), 1 ≤ j → m - j ≤ t → j ≤ m → -1000000 ≤ n → n ≤ 1000000 + 31 * j → ∀ k, t + 1 < k → impl_dayNumber.l0 k n j y m d = some (n + cum y (m - 1).toNat - cum y (j - 1).toNat) := by
  intro t
  induction t with
  | zero =>
    intro n j hj ht hjm hn hn1 k hk
    obtain ⟨k, rfl⟩ : ∃ z, k = z + 1 := ⟨k - 1, by omega⟩
    obtain rfl : j = m := by omega
    simp only [impl_dayNumber.l0]; rw [if_neg (by omega)]; congr 1; omega
  | succ t ih =>
    intro n j hj ht hjm hn hn1 k hk
    obtain ⟨k, rfl⟩ : ∃ z, k = z + 1 := ⟨k - 1, by omega⟩
    simp only [impl_dayNumber.l0]
    by_cases h : j < m
    · have := dim_range y j
      have := cum_succ y j hj
      have hd : impl_daysInMonth.f k y j = some (dim y j) := by
        obtain ⟨k, rfl⟩ : ∃ z, k = z + 1 := ⟨k - 1, by omega⟩
        exact impl_days_eq k y j
      rw [if_pos h, hd]; simp only [Option.bind_some]
      rw [wid (n + dim y j) (by omega) (by omega), wid (j + 1) (by omega) (by omega), ih (n + dim y j) (j + 1) (by omega) (by omega) (by omega) (by omega) (by omega) k (by omega), show j + 1 - 1 = j by omega]
      congr 1; omega
    · obtain rfl : j = m := by omega
      rw [if_neg h]; congr 1; omega

theorem yr_range (y : Int) (h0 : 1900 ≤ y) (h1 : y ≤ 2101) : -36600 ≤ yr y ∧ yr y ≤ 37000 := by unfold yr; omega

theorem spec_number_eq (y m d : Int) (h0 : 1900 ≤ y) (h1 : y ≤ 2101) (hm0 : 1 ≤ m) (hm1 : m ≤ 12) (hd0 : -1000 ≤ d) (hd1 : d ≤ 1000) (k : Nat) (hk : 13 < k) : spec_l07Number.f k y m d = some (num y m d) := by
  have := yr_range y h0 h1
  unfold spec_l07Number.f num
  rw [spec_year_eq y (by omega) (by omega)]; simp only [Option.bind_some]
  rw [wid (yr y + d) (by omega) (by omega), wid (yr y + d - 1) (by omega) (by omega), spec_number_loop y m d hm1 12 _ 1 (by omega) (by omega) hm0 (by omega) (by omega) k (by omega)]
  simp [cum]

theorem impl_number_eq (y m d : Int) (h0 : 1901 ≤ y) (h1 : y ≤ 2101) (hm0 : 1 ≤ m) (hm1 : m ≤ 12) (hd0 : -1000 ≤ d) (hd1 : d ≤ 1000) (k : Nat) (hk : 13 < k) : impl_dayNumber.f k y m d = some (num y m d) := by
  have := yr_range y (by omega) h1
  have e : -36159 + 365 * (y - 1901) + (y - 1901) / 4 = yr y := by unfold yr; omega
  unfold impl_dayNumber.f num
  rw [wid (y - 1901) (by omega) (by omega), tdivP _ _ (by omega), wid (365 * (y - 1901)) (by omega) (by omega), wid ((y - 1901) / 4) (by omega) (by omega), wid (-36159 + 365 * (y - 1901)) (by omega) (by omega), e,
    wid (yr y) (by omega) (by omega), wid (yr y + d) (by omega) (by omega), wid (yr y + d - 1) (by omega) (by omega), impl_number_loop y m d hm1 12 _ 1 (by omega) (by omega) hm0 (by omega) (by omega) k (by omega)]
  simp [cum]

theorem dat_bounds {y m d : Int} (h : dat y m d) : 1901 ≤ y ∧ y ≤ 2099 ∧ 1 ≤ m ∧ m ≤ 12 ∧ 1 ≤ d ∧ d ≤ 31 := by
  have := dim_range y m; omega

theorem spec_DayNumber_eq (k : Nat) (y m d : Int) : spec_DayNumber.f (k + 20) y m d = some (if dat y m d then (num y m d, 0) else (0, 1)) := by
  unfold spec_DayNumber.f; rw [spec_IsDate_eq, bind_dec]
  by_cases h : dat y m d
  · have b := dat_bounds h
    rw [if_pos h, if_pos h, spec_number_eq y m d (by omega) (by omega) (by omega) (by omega) (by omega) (by omega) _ (by omega)]; rfl
  · rw [if_neg h, if_neg h]

theorem impl_DayNumber_eq (k : Nat) (y m d : Int) : impl_DayNumber.f (k + 20) y m d = some (if dat y m d then (num y m d, 0) else (0, 1)) := by
  unfold impl_DayNumber.f; rw [impl_IsDate_eq (k + 19), bind_dec]
  by_cases h : dat y m d
  · have b := dat_bounds h
    rw [if_pos h, if_pos h, impl_number_eq y m d (by omega) (by omega) (by omega) (by omega) (by omega) (by omega) _ (by omega)]; rfl
  · rw [if_neg h, if_neg h]

theorem FnExactDayNumber (a0_0 : Int) (a0_1 : Int) (a0_2 : Int) (h0_0 : (Lit.int .i64 a0_0).wf = true) (h0_1 : (Lit.int .i64 a0_1).wf = true) (h0_2 : (Lit.int .i64 a0_2).wf = true) : ∃ k, laws_FnExactDayNumber.f k a0_0 a0_1 a0_2 = some true := by
  refine ⟨20, ?_⟩
  unfold laws_FnExactDayNumber.f laws_toDate.f
  simp only [Option.bind_some]
  rw [spec_DayNumber_eq 0, impl_DayNumber_eq 0]; simp only [Option.bind_some, if_true]

end Go.Proofs.Ytboccnkleaiclaa.Pure
