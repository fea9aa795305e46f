/- Proved: for all arguments the law FnExactNthWeekday returns true. Conditions: none. -/
import Derived.Test.YtllapjemdegnjaaQFnExactNthWeekdayx2
namespace Go.Proofs.Ytllapjemdegnjaa.Pure
open Go.RowKit Go.Proofs.Ytllapjemdegnjaa.PFnExactNthWeekday Go.Proofs.YtllapjemdegnjaaW.PrintWords Go.Proofs.YtllapjemdegnjaaW.PrintLast Go.Proofs.YtllapjemdegnjaaW.PrintMore
set_option linter.unusedVariables false
set_option linter.unusedSimpArgs false

theorem wid (n : Int) (h0 : -9223372036854775808 ≤ n) (h1 : n ≤ 9223372036854775807) : wrap64 n = n := by unfold wrap64; omega

theorem tmodP (a b : Int) (h : 0 ≤ a) : a.tmod b = a % b := Int.tmod_eq_emod_of_nonneg h

theorem tdivP (a b : Int) (h : 0 ≤ a) : a.tdiv b = a / b := Int.tdiv_eq_ediv_of_nonneg h

theorem ediv_bounds (a b : Int) (hb : 0 < b) : b * (a / b) + a % b = a ∧ 0 ≤ a % b ∧ a % b < b := ⟨Int.mul_ediv_add_emod a b, Int.emod_nonneg _ (by omega), Int.emod_lt_of_pos _ hb⟩

/-- Go's truncated quotient and remainder by a positive number, in Lean's floor form. -/
theorem tdiv_pos_spec (a b : Int) (hb : 0 < b) : a.tmod b = (if 0 ≤ a ∨ a % b = 0 then a % b else a % b - b) ∧ a.tdiv b = (if 0 ≤ a ∨ a % b = 0 then a / b else a / b + 1) := by
  have h1 : a.tdiv b = (if 0 ≤ a ∨ a % b = 0 then a / b else a / b + 1) := by
    rw [Int.tdiv_eq_ediv]
    have e : b.sign = 1 := Int.sign_eq_one_of_pos hb
    rw [e]
    have : (b ∣ a) ↔ a % b = 0 := Int.dvd_iff_emod_eq_zero
    by_cases h : 0 ≤ a ∨ a % b = 0
    · rw [if_pos h, if_pos (by rw [this]; exact h)]; omega
    · rw [if_neg h, if_neg (by rw [this]; exact h)]
  refine ⟨?_, h1⟩
  have h2 := Int.mul_tdiv_add_tmod a b
  have h3 := Int.mul_ediv_add_emod a b
  rw [h1] at h2
  by_cases h : 0 ≤ a ∨ a % b = 0
  · rw [if_pos h] at h2 ⊢; omega
  · rw [if_neg h] at h2 ⊢; rw [Int.mul_add] at h2; omega

theorem ediv_range (a b : Int) (hb : 0 < b) (A : Int) (h0 : -A ≤ a) (h1 : a ≤ A) (hA : 0 ≤ A) : -A ≤ a / b ∧ a / b ≤ A := by
  constructor
  · rw [Int.le_ediv_iff_mul_le hb]
    have : -A * b ≤ -A * 1 := by
      have : A * 1 ≤ A * b := Int.mul_le_mul_of_nonneg_left (by omega) hA
      rw [Int.neg_mul, Int.neg_mul]; omega
    omega
  · have : a / b ≤ A / b := Int.ediv_le_ediv hb h1
    have h2 : A / b ≤ A := Int.ediv_le_self _ hA
    omega

theorem impl_in_eq (n lo hi : Int) : impl_in.f n lo hi = some (decide (lo ≤ n ∧ n ≤ hi)) := by
  unfold impl_in.f; by_cases h : n ≥ lo
  · rw [if_pos h]; simp [show lo ≤ n from h]
  · rw [if_neg h]; simp [show ¬ lo ≤ n from h]

theorem spec_in_eq (n lo hi : Int) : spec_l01In.f n lo hi = some (decide (lo ≤ n ∧ n ≤ hi)) := by
  unfold spec_l01In.f; by_cases h : n ≥ lo
  · rw [if_pos h]; simp [show lo ≤ n from h]
  · rw [if_neg h]; simp [show ¬ lo ≤ n from h]

theorem impl_floor_pos (a b : Int) (hb : 0 < b) (h0 : -9223372036854775807 ≤ a) (h1 : a ≤ 9223372036854775807) : impl_floor.f a b = some (a / b) := by
  have hr := ediv_range a b hb 9223372036854775807 h0 h1 (by omega)
  obtain ⟨e1, e2⟩ := tdiv_pos_spec a b hb
  have hm := Int.emod_nonneg a (show b ≠ 0 by omega)
  have hm2 := Int.emod_lt_of_pos a hb
  unfold impl_floor.f
  rw [if_neg (by omega), e1, e2]
  by_cases h : 0 ≤ a ∨ a % b = 0
  · rw [if_pos h, if_pos h, wid _ (by omega) (by omega)]
    by_cases hz : a % b = 0
    · rw [if_pos hz]
    · rw [if_neg hz, if_neg]
      have : ¬ (a % b < 0) := by omega
      have : ¬ (b < 0) := by omega
      simp [*]
  · rw [if_neg h, if_neg h, if_neg (by omega), if_pos]
    · have : a / b + 1 ≤ 0 := by
        have := Int.ediv_neg_of_neg_of_pos (show a < 0 by omega) hb
        omega
      rw [wid (a / b + 1) (by omega) (by omega), wid _ (by omega) (by omega)]; congr 1; omega
    · have : (a % b - b < 0) := by omega
      have : ¬ (b < 0) := by omega
      simp [*]

theorem impl_mod_pos (a b : Int) (hb : 0 < b) (hb1 : b ≤ 9223372036854775807) (h0 : -9223372036854775807 ≤ a) (h1 : a ≤ 9223372036854775807) (hab : -9223372036854775807 ≤ a - b) : impl_mod.f a b = some (a % b) := by
  obtain ⟨e, m0, m1⟩ := ediv_bounds a b hb
  unfold impl_mod.f
  rw [impl_floor_pos a b hb h0 h1]
  have e2 : a / b * b = a - a % b := by rw [Int.mul_comm]; omega
  simp only [Option.bind_some]
  rw [e2, wid (a - a % b) (by omega) (by omega), wid _ (by omega) (by omega)]; congr 1; omega

theorem spec_mod_pos (a b : Int) (hb : 0 < b) (hb1 : b ≤ 4611686018427387904) : spec_l01Mod.f a b = some (a % b) := by
  unfold spec_l01Mod.f
  rw [if_neg (by omega)]
  obtain ⟨e1, e2⟩ := tdiv_pos_spec a b hb
  have m0 := Int.emod_nonneg a (show b ≠ 0 by omega)
  have m1 := Int.emod_lt_of_pos a hb
  rw [e1]
  by_cases h : 0 ≤ a ∨ a % b = 0
  · rw [if_pos h, wid _ (by omega) (by omega), tmodP _ _ (by omega), Int.add_emod_right, Int.emod_emod]
  · rw [if_neg h, wid _ (by omega) (by omega), tmodP _ _ (by omega)]
    have : a % b - b + b = a % b := by omega
    rw [this, Int.emod_emod]

theorem spec_floor_pos (a b : Int) (hb : 0 < b) (h0 : -9223372036854775807 ≤ a) (h1 : a ≤ 9223372036854775807) : spec_l01Floor.f a b = some (a / b) := by
  have hr := ediv_range a b hb 9223372036854775807 h0 h1 (by omega)
  obtain ⟨e1, e2⟩ := tdiv_pos_spec a b hb
  have hm := Int.emod_nonneg a (show b ≠ 0 by omega)
  have hm2 := Int.emod_lt_of_pos a hb
  unfold spec_l01Floor.f
  rw [if_neg (by omega), if_neg (by omega), e1, e2]
  by_cases h : 0 ≤ a ∨ a % b = 0
  · rw [if_pos h, if_pos h, if_neg (by omega), wid _ (by omega) (by omega)]
  · rw [if_neg h, if_neg h, if_pos (by omega)]
    have : a / b + 1 ≤ 0 := by
      have := Int.ediv_neg_of_neg_of_pos (show a < 0 by omega) hb
      omega
    rw [wid (a / b + 1) (by omega) (by omega), wid _ (by omega) (by omega)]; congr 1; omega

theorem spec_floor_neg (a b : Int) (hb : b < 0) (hb1 : -9223372036854775807 ≤ b) (h0 : -9223372036854775807 ≤ a) (h1 : a ≤ 9223372036854775807) : spec_l01Floor.f a b = some ((-a) / (-b)) := by
  have h := spec_floor_pos (-a) (-b) (by omega) (by omega) (by omega)
  unfold spec_l01Floor.f at h ⊢
  rw [if_neg (by omega), if_neg (by omega)] at h
  rw [if_pos hb, wid (-a) (by omega) (by omega), wid (-b) (by omega) (by omega), if_neg (by omega)]; exact h

/-- The floor of a fraction, whatever the sign of its denominator. -/
def flr (a b : Int) : Int := if 0 < b then a / b else (-a) / (-b)

theorem spec_floor_eq (a b : Int) (hb : b ≠ 0) (hb1 : -9223372036854775807 ≤ b) (h0 : -9223372036854775807 ≤ a) (h1 : a ≤ 9223372036854775807) : spec_l01Floor.f a b = some (flr a b) := by
  unfold flr; by_cases h : 0 < b
  · rw [if_pos h, spec_floor_pos a b h h0 h1]
  · rw [if_neg h, spec_floor_neg a b (by omega) hb1 h0 h1]

theorem flr_range (a b : Int) (hb : b ≠ 0) (A : Int) (h0 : -A ≤ a) (h1 : a ≤ A) (hA : 0 ≤ A) : -A ≤ flr a b ∧ flr a b ≤ A := by
  unfold flr; by_cases h : 0 < b
  · rw [if_pos h]; exact ediv_range a b h A h0 h1 hA
  · rw [if_neg h]; exact ediv_range (-a) (-b) (by omega) A (by omega) (by omega) hA

theorem spec_ceil_eq (a b : Int) (hb : b ≠ 0) (hb1 : -9223372036854775807 ≤ b) (h0 : -9223372036854775807 ≤ a) (h1 : a ≤ 9223372036854775807) : spec_l01Ceil.f a b = some (-(flr (-a) b)) := by
  have := flr_range (-a) b hb 9223372036854775807 (by omega) (by omega) (by omega)
  unfold spec_l01Ceil.f; rw [wid (-a) (by omega) (by omega), spec_floor_eq (-a) b hb hb1 (by omega) (by omega)]; simp only [Option.bind_some]; rw [wid _ (by omega) (by omega)]

theorem bind_dec {α : Type} (p : Prop) [Decidable p] (A : Option α) (B : α) : ((some (decide p)).bind fun t => if t = true then A else some B) = if p then A else some B := by
  by_cases h : p <;> simp [h]

theorem ite_and {α : Type} (p q : Prop) [Decidable p] [Decidable q] (A B : α) : (if p then (if q then A else B) else B) = if p ∧ q then A else B := by
  by_cases h : p <;> by_cases h2 : q <;> simp [h, h2]

theorem dec_and (p q : Prop) [Decidable p] [Decidable q] : (if decide p = true then some (decide q) else some false) = some (decide (p ∧ q)) := by
  by_cases h : p <;> simp [h]

theorem ite_notdec {α : Type} (p : Prop) [Decidable p] (A B : α) : (if (!decide p) = true then A else B) = if p then B else A := by
  by_cases h : p <;> simp [h]

theorem flr_pos (a b : Int) (h : 0 < b) : flr a b = a / b := by unfold flr; rw [if_pos h]

def dim (y m : Int) : Int := if m = 2 then (if y % 4 = 0 then 29 else 28) else if m = 4 ∨ m = 6 ∨ m = 9 ∨ m = 11 then 30 else 31

theorem tmod4 (y : Int) : Int.tmod y 4 = 0 ↔ y % 4 = 0 := by
  obtain ⟨e, _⟩ := tdiv_pos_spec y 4 (by omega)
  rw [e]; by_cases h : 0 ≤ y ∨ y % 4 = 0
  · rw [if_pos h]
  · rw [if_neg h]; omega

theorem spec_days_eq (y m : Int) : spec_l07Days.f y m = some (dim y m) := by
  unfold spec_l07Days.f dim
  by_cases h2 : m = 2
  · rw [if_pos h2, if_pos h2]; by_cases h : y % 4 = 0
    · rw [if_pos h, if_pos ((tmod4 y).2 h)]
    · rw [if_neg h, if_neg (fun k => h ((tmod4 y).1 k))]
  · rw [if_neg h2, if_neg h2]
    by_cases h4 : m = 4
    · rw [if_pos h4, if_pos (.inl h4)]
    · by_cases h6 : m = 6
      · rw [if_neg h4, if_pos h6, if_pos (.inr (.inl h6))]
      · by_cases h9 : m = 9
        · rw [if_neg h4, if_neg h6, if_pos h9, if_pos (.inr (.inr (.inl h9)))]
        · by_cases h11 : m = 11
          · rw [if_neg h4, if_neg h6, if_neg h9, if_pos h11, if_pos (.inr (.inr (.inr h11)))]
          · rw [if_neg h4, if_neg h6, if_neg h9, if_neg h11, if_neg (by omega)]

theorem impl_days_eq (k : Nat) (y m : Int) : impl_daysInMonth.f (k + 1) y m = some (dim y m) := by
  unfold impl_daysInMonth.f dim
  simp only [impl_daysInMonth.j0]
  by_cases h4 : m = 4
  · subst h4; simp
  · by_cases h6 : m = 6
    · subst h6; simp
    · by_cases h9 : m = 9
      · subst h9; simp
      · by_cases h11 : m = 11
        · subst h11; simp
        · rw [if_neg h4, if_neg h6, if_neg h9, if_neg (by simpa using h11)]
          by_cases h2 : m = 2
          · rw [if_pos h2, if_pos h2]; by_cases h : y % 4 = 0
            · rw [if_pos h, if_pos ((tmod4 y).2 h)]
            · rw [if_neg h, if_neg (fun k => h ((tmod4 y).1 k))]
          · rw [if_neg h2, if_neg h2, if_neg (by omega)]

abbrev mon (y m : Int) : Prop := (1901 ≤ y ∧ y ≤ 2099) ∧ (1 ≤ m ∧ m ≤ 12)

theorem spec_month_eq (y m : Int) : spec_l07Month.f y m = some (decide (mon y m)) := by
  unfold spec_l07Month.f; rw [spec_in_eq, spec_in_eq]; simp only [Option.bind_some, dec_and]

theorem impl_isMonth_eq (y m : Int) : impl_isMonth.f y m = some (decide (mon y m)) := by
  unfold impl_isMonth.f; rw [impl_in_eq, impl_in_eq]; simp only [Option.bind_some, dec_and]

/-- The number of January 1 of a year; the days of a year's first n months; the number of a date. -/
def yr (y : Int) : Int := 365 * (y - 2000) - (2000 - y) / 4

def cum (y : Int) : Nat → Int
  | 0 => 0
  | n + 1 => cum y n + dim y ((n : Int) + 1)

def num (y m d : Int) : Int := yr y + d - 1 + cum y (m - 1).toNat

theorem dim_range (y m : Int) : 28 ≤ dim y m ∧ dim y m ≤ 31 := by
  unfold dim; repeat' split
  all_goals omega

theorem cum_succ (y j : Int) (h : 1 ≤ j) : cum y j.toNat = cum y (j - 1).toNat + dim y j := by
  obtain ⟨n, rfl⟩ : ∃ n : Nat, j = (n : Int) + 1 := ⟨(j - 1).toNat, by omega⟩
  rw [show ((n : Int) + 1).toNat = n + 1 by omega, show ((n : Int) + 1 - 1).toNat = n by omega]; rfl

theorem cum_range (y : Int) : ∀ n : Nat, 28 * (n : Int) ≤ cum y n ∧ cum y n ≤ 31 * (n : Int)
  | 0 => by simp [cum]
  | n + 1 => by
    have := cum_range y n; have := dim_range y ((n : Int) + 1)
    simp only [cum]; omega

theorem spec_year_eq (y : Int) (h0 : -1000000 ≤ y) (h1 : y ≤ 1000000) : spec_l07Year.f y = some (yr y) := by
  unfold spec_l07Year.f yr
  rw [wid (y - 2000) (by omega) (by omega), spec_ceil_eq _ _ (by omega) (by omega) (by omega) (by omega), flr_pos _ _ (by omega)]; simp only [Option.bind_some]
  rw [wid (365 * (y - 2000)) (by omega) (by omega), wid _ (by omega) (by omega)]; congr 1; omega

theorem spec_number_loop (y m d : Int) (hm : m ≤ 12) : ∀ (t : Nat) (n j : Int), 1 ≤ j → m - j ≤ t → j ≤ m → -1000000 ≤ n → n ≤ 1000000 + 31 * j → ∀ k, t < k → spec_l07Number.l0 k n j y m d = some (n + cum y (m - 1).toNat - cum y (j - 1).toNat) := by
  intro t
  induction t with
  | zero =>
    intro n j hj ht hjm hn hn1 k hk
    obtain ⟨k, rfl⟩ : ∃ z, k = z + 1 := ⟨k - 1, by omega⟩
    obtain rfl : j = m := by omega
    simp only [spec_l07Number.l0]; rw [if_neg (by omega)]; congr 1; omega
  | succ t ih =>
    intro n j hj ht hjm hn hn1 k hk
    obtain ⟨k, rfl⟩ : ∃ z, k = z + 1 := ⟨k - 1, by omega⟩
    simp only [spec_l07Number.l0]
    by_cases h : j < m
    · have := dim_range y j
      have := cum_succ y j hj
      rw [if_pos h, spec_days_eq]; simp only [Option.bind_some]
      rw [wid (n + dim y j) (by omega) (by omega), wid (j + 1) (by omega) (by omega), ih (n + dim y j) (j + 1) (by omega) (by omega) (by omega) (by omega) (by omega) k (by omega), show j + 1 - 1 = j by omega]
      congr 1; omega
    · obtain rfl : j = m := by omega
      rw [if_neg h]; congr 1; omega

theorem impl_number_loop (y m d : Int) (hm : m ≤ 12) : ∀ (t : Nat) (n j : Int), 1 ≤ j → m - j ≤ t → j ≤ m → -1000000 ≤ n → n ≤ 1000000 + 31 * j → ∀ k, t + 1 < k → impl_dayNumber.l0 k n j y m d = some (n + cum y (m - 1).toNat - cum y (j - 1).toNat) := by
  intro t
  induction t with
  | zero =>
    intro n j hj ht hjm hn hn1 k hk
    obtain ⟨k, rfl⟩ : ∃ z, k = z + 1 := ⟨k - 1, by omega⟩
    obtain rfl : j = m := by omega
    simp only [impl_dayNumber.l0]; rw [if_neg (by omega)]; congr 1; omega
  | succ t ih =>
    intro n j hj ht hjm hn hn1 k hk
    obtain ⟨k, rfl⟩ : ∃ z, k = z + 1 := ⟨k - 1, by omega⟩
    simp only [impl_dayNumber.l0]
    by_cases h : j < m
    · have := dim_range y j
      have := cum_succ y j hj
      have hd : impl_daysInMonth.f k y j = some (dim y j) := by
        obtain ⟨k, rfl⟩ : ∃ z, k = z + 1 := ⟨k - 1, by omega⟩
        exact impl_days_eq k y j
      rw [if_pos h, hd]; simp only [Option.bind_some]
      rw [wid (n + dim y j) (by omega) (by omega), wid (j + 1) (by omega) (by omega), ih (n + dim y j) (j + 1) (by omega) (by omega) (by omega) (by omega) (by omega) k (by omega), show j + 1 - 1 = j by omega]
      congr 1; omega
    · obtain rfl : j = m := by omega
      rw [if_neg h]; congr 1; omega

theorem yr_range (y : Int) (h0 : 1900 ≤ y) (h1 : y ≤ 2101) : -36600 ≤ yr y ∧ yr y ≤ 37000 := by unfold yr; omega

theorem spec_number_eq (y m d : Int) (h0 : 1900 ≤ y) (h1 : y ≤ 2101) (hm0 : 1 ≤ m) (hm1 : m ≤ 12) (hd0 : -1000 ≤ d) (hd1 : d ≤ 1000) (k : Nat) (hk : 13 < k) : spec_l07Number.f k y m d = some (num y m d) := by
  have := yr_range y h0 h1
  unfold spec_l07Number.f num
  rw [spec_year_eq y (by omega) (by omega)]; simp only [Option.bind_some]
  rw [wid (yr y + d) (by omega) (by omega), wid (yr y + d - 1) (by omega) (by omega), spec_number_loop y m d hm1 12 _ 1 (by omega) (by omega) hm0 (by omega) (by omega) k (by omega)]
  simp [cum]

theorem impl_number_eq (y m d : Int) (h0 : 1901 ≤ y) (h1 : y ≤ 2101) (hm0 : 1 ≤ m) (hm1 : m ≤ 12) (hd0 : -1000 ≤ d) (hd1 : d ≤ 1000) (k : Nat) (hk : 13 < k) : impl_dayNumber.f k y m d = some (num y m d) := by
  have := yr_range y (by omega) h1
  have e : -36159 + 365 * (y - 1901) + (y - 1901) / 4 = yr y := by unfold yr; omega
  unfold impl_dayNumber.f num
  rw [wid (y - 1901) (by omega) (by omega), tdivP _ _ (by omega), wid (365 * (y - 1901)) (by omega) (by omega), wid ((y - 1901) / 4) (by omega) (by omega), wid (-36159 + 365 * (y - 1901)) (by omega) (by omega), e,
    wid (yr y) (by omega) (by omega), wid (yr y + d) (by omega) (by omega), wid (yr y + d - 1) (by omega) (by omega), impl_number_loop y m d hm1 12 _ 1 (by omega) (by omega) hm0 (by omega) (by omega) k (by omega)]
  simp [cum]

theorem num_range {y m d : Int} (h0 : 1900 ≤ y) (h1 : y ≤ 2101) (hm0 : 1 ≤ m) (hm1 : m ≤ 12) (hd0 : 0 ≤ d) (hd1 : d ≤ 31) : -40000 ≤ num y m d ∧ num y m d ≤ 40000 := by
  have := yr_range y h0 h1
  have := cum_range y (m - 1).toNat
  unfold num; omega

theorem impl_weekday_eq (n : Int) (h0 : -1000000 ≤ n) (h1 : n ≤ 1000000) : impl_weekday.f n = some ((n + 5) % 7) := by
  unfold impl_weekday.f; rw [wid (n + 5) (by omega) (by omega), impl_mod_pos _ _ (by omega) (by omega) (by omega) (by omega) (by omega)]; rfl

theorem spec_weekday_eq (n : Int) (h0 : -1000000 ≤ n) (h1 : n ≤ 1000000) : spec_l07Weekday.f n = some ((n + 5) % 7) := by
  unfold spec_l07Weekday.f; rw [wid (n + 5) (by omega) (by omega), spec_mod_pos _ _ (by omega) (by omega)]; rfl

theorem eqDate_refl (a b c : Int) : laws_eqDate.f a b c a b c = some true := by
  unfold laws_eqDate.f; rw [if_pos rfl, if_pos rfl, if_pos rfl]

/-- The first day of a month with a weekday; what the n-th one is. -/
def fstD (y m w : Int) : Int := 1 + (w - (num y m 1 + 5) % 7) % 7

def nthV (y m w n : Int) : Int × Int × Int × Int :=
  if n = 0 then (y, m, fstD y m w + (dim y m - fstD y m w) / 7 * 7, 0) else if fstD y m w + 7 * (n - 1) > dim y m then (0, 0, 0, 4) else (y, m, fstD y m w + 7 * (n - 1), 0)

theorem impl_nth_eq (k : Nat) (y m w n : Int) (hm : mon y m) (hw : 0 ≤ w ∧ w ≤ 6) (hn : 0 ≤ n ∧ n ≤ 5) : impl_nthWeekday.f (k + 20) y m w n = some (nthV y m w n) := by
  have b := num_range (y := y) (m := m) (d := 1) (by omega) (by omega) (by omega) (by omega) (by omega) (by omega)
  have dr := dim_range y m
  unfold impl_nthWeekday.f nthV fstD
  rw [impl_number_eq y m 1 (by omega) (by omega) (by omega) (by omega) (by omega) (by omega) _ (by omega)]; simp only [Option.bind_some]
  rw [impl_weekday_eq _ (by omega) (by omega)]; simp only [Option.bind_some]
  generalize hq : (num y m 1 + 5) % 7 = q
  have q0 : 0 ≤ q ∧ q < 7 := by omega
  rw [wid (w - q) (by omega) (by omega), impl_mod_pos _ _ (by omega) (by omega) (by omega) (by omega) (by omega), impl_days_eq (k + 19)]; simp only [Option.bind_some]
  generalize hf : (w - q) % 7 = f
  have f0 : 0 ≤ f ∧ f < 7 := by omega
  rw [wid (1 + f) (by omega) (by omega), wid (dim y m - (1 + f)) (by omega) (by omega), tdivP _ _ (by omega), wid ((dim y m - (1 + f)) / 7) (by omega) (by omega), wid ((dim y m - (1 + f)) / 7 * 7) (by omega) (by omega), wid (1 + f + (dim y m - (1 + f)) / 7 * 7) (by omega) (by omega),
    wid (n - 1) (by omega) (by omega), wid (7 * (n - 1)) (by omega) (by omega), wid (1 + f + 7 * (n - 1)) (by omega) (by omega)]
  by_cases c : n = 0
  · rw [if_pos c, if_pos c]
  · rw [if_neg c, if_neg c]
    by_cases c2 : 1 + f + 7 * (n - 1) > dim y m
    · rw [if_pos c2, if_pos c2]
    · rw [if_neg c2, if_neg c2]

/-- What the reference's count and day are, ahead of a day: F the first such day. -/
def cntD (F d : Int) : Int := (d + 6 - F) / 7

def outD (F n d : Int) : Int := if n = 0 then (if cntD F d = 0 then 0 else F + 7 * (cntD F d - 1)) else (if n ≤ cntD F d then F + 7 * (n - 1) else 0)

theorem num_day (y m d : Int) : num y m d = num y m 1 + (d - 1) := by unfold num; omega

theorem spec_nth_loop (y m w n : Int) (hm : mon y m) (hw : 0 ≤ w ∧ w ≤ 6) (hn : 0 ≤ n ∧ n ≤ 5) : ∀ (t : Nat) (d : Int), 1 ≤ d → d ≤ dim y m + 1 → dim y m + 1 - d ≤ t → ∀ k, t + 15 < k →
    spec_l07Nth.l0 k y m w n (cntD (fstD y m w) d) d y m (outD (fstD y m w) n d) = some (y, m, outD (fstD y m w) n (dim y m + 1)) := by
  have b := num_range (y := y) (m := m) (d := 1) (by omega) (by omega) (by omega) (by omega) (by omega) (by omega)
  have dr := dim_range y m
  have F0 : 1 ≤ fstD y m w ∧ fstD y m w ≤ 7 := by unfold fstD; omega
  intro t
  induction t with
  | zero =>
    intro d d0 d1 d2 k hk
    obtain ⟨k, rfl⟩ : ∃ z, k = z + 1 := ⟨k - 1, by omega⟩
    obtain rfl : d = dim y m + 1 := by omega
    simp only [spec_l07Nth.l0]; rw [spec_days_eq]; simp only [Option.bind_some]
    rw [if_neg (by omega)]
  | succ t ih =>
    intro d d0 d1 d2 k hk
    obtain ⟨k, rfl⟩ : ∃ z, k = z + 1 := ⟨k - 1, by omega⟩
    by_cases c : d = dim y m + 1
    · subst c
      simp only [spec_l07Nth.l0]; rw [spec_days_eq]; simp only [Option.bind_some]
      rw [if_neg (by omega)]
    · have bd := num_day y m d
      have C0 : 0 ≤ cntD (fstD y m w) d ∧ cntD (fstD y m w) d ≤ 6 := by unfold cntD; omega
      have hd := ih (d + 1) (by omega) (by omega) (by omega) k (by omega)
      simp only [spec_l07Nth.l0]; rw [spec_days_eq]; simp only [Option.bind_some]
      rw [if_pos (by omega), spec_number_eq y m d (by omega) (by omega) (by omega) (by omega) (by omega) (by omega) _ (by omega)]; simp only [Option.bind_some]
      rw [spec_weekday_eq _ (by omega) (by omega)]; simp only [Option.bind_some]
      rw [wid (cntD (fstD y m w) d + 1) (by omega) (by omega), wid (d + 1) (by omega) (by omega)]
      by_cases e : (num y m d + 5) % 7 = w
      · have hF : (d - fstD y m w) % 7 = 0 := by unfold fstD; omega
        have c1 : cntD (fstD y m w) (d + 1) = cntD (fstD y m w) d + 1 := by unfold cntD; omega
        have c2 : d = fstD y m w + 7 * cntD (fstD y m w) d := by unfold cntD; omega
        rw [if_pos e]
        rw [c1] at hd
        by_cases n0 : n = 0
        · have o : outD (fstD y m w) n (d + 1) = d := by unfold outD; rw [if_pos n0, c1, if_neg (by omega)]; omega
          rw [o] at hd; rw [if_pos n0]; exact hd
        · rw [if_neg n0]
          by_cases n1 : cntD (fstD y m w) d + 1 = n
          · have o : outD (fstD y m w) n (d + 1) = d := by unfold outD; rw [if_neg n0, c1, if_pos (by omega)]; omega
            rw [o] at hd; rw [if_pos n1]; exact hd
          · have o : outD (fstD y m w) n (d + 1) = outD (fstD y m w) n d := by
              unfold outD; rw [if_neg n0, if_neg n0, c1]
              by_cases n2 : n ≤ cntD (fstD y m w) d
              · rw [if_pos n2, if_pos (by omega)]
              · rw [if_neg n2, if_neg (by omega)]
            rw [o] at hd; rw [if_neg n1]; exact hd
      · have hF : (d - fstD y m w) % 7 ≠ 0 := by unfold fstD; omega
        have c1 : cntD (fstD y m w) (d + 1) = cntD (fstD y m w) d := by unfold cntD; omega
        have o : outD (fstD y m w) n (d + 1) = outD (fstD y m w) n d := by unfold outD; rw [c1]
        rw [c1, o] at hd
        rw [if_neg e]; exact hd

theorem spec_nth_eq (k : Nat) (y m w n : Int) (hm : mon y m) (hw : 0 ≤ w ∧ w ≤ 6) (hn : 0 ≤ n ∧ n ≤ 5) : spec_l07Nth.f (k + 60) y m w n = some (y, m, outD (fstD y m w) n (dim y m + 1)) := by
  have dr := dim_range y m
  have F0 : 1 ≤ fstD y m w ∧ fstD y m w ≤ 7 := by unfold fstD; omega
  have := spec_nth_loop y m w n hm hw hn 31 1 (by omega) (by omega) (by omega) (k + 60) (by omega)
  have c1 : cntD (fstD y m w) 1 = 0 := by unfold cntD; omega
  have o1 : outD (fstD y m w) n 1 = 0 := by
    unfold outD; rw [c1]; by_cases n0 : n = 0
    · rw [if_pos n0, if_pos rfl]
    · rw [if_neg n0, if_neg (by omega)]
  rw [c1, o1] at this
  exact this

theorem out_nth (y m w n : Int) (hn : 0 ≤ n ∧ n ≤ 5) : (if outD (fstD y m w) n (dim y m + 1) = 0 then ((0, 0, 0, 4) : Int × Int × Int × Int) else (y, m, outD (fstD y m w) n (dim y m + 1), 0)) = nthV y m w n := by
  have dr := dim_range y m
  have F0 : 1 ≤ fstD y m w ∧ fstD y m w ≤ 7 := by unfold fstD; omega
  unfold nthV outD cntD
  generalize fstD y m w = F at *
  by_cases n0 : n = 0
  · rw [if_pos n0, if_pos n0, if_neg (show ¬ (dim y m + 1 + 6 - F) / 7 = 0 by omega), if_neg (by omega)]
    congr 3; omega
  · rw [if_neg n0, if_neg n0]
    by_cases c : n ≤ (dim y m + 1 + 6 - F) / 7
    · rw [if_pos c, if_neg (by omega), if_neg (by omega)]
    · rw [if_neg c, if_pos rfl, if_pos (by omega)]

abbrev nthOk (y m w n : Int) : Prop := (mon y m ∧ (0 ≤ w ∧ w ≤ 6)) ∧ (0 ≤ n ∧ n ≤ 5)

theorem impl_NthWeekday_eq (k : Nat) (y m w n : Int) : impl_NthWeekday.f (k + 60) y m w n = some (if nthOk y m w n then nthV y m w n else (0, 0, 0, 2)) := by
  unfold impl_NthWeekday.f
  rw [impl_isMonth_eq, impl_in_eq, impl_in_eq, bind_dec, bind_dec, bind_dec, ite_and, ite_and]
  by_cases h : nthOk y m w n
  · rw [if_pos h, if_pos h, impl_nth_eq (k + 40) y m w n h.1.1 h.1.2 h.2]; rfl
  · rw [if_neg h, if_neg h]

theorem chain3 {α : Type} (p q r : Prop) [Decidable p] [Decidable q] [Decidable r] (J : Bool → Option α) : ((some (decide p)).bind fun t => if t = true then ((some (decide q)).bind fun s => if s = true then ((some (decide r)).bind fun u => J (!u)) else J true) else J true) = J (!decide ((p ∧ q) ∧ r)) := by
  by_cases h : p <;> by_cases h2 : q <;> by_cases h3 : r <;> simp [h, h2, h3]

theorem spec_NthWeekday_eq (k : Nat) (y m w n : Int) : spec_NthWeekday.f (k + 61) y m w n = some (if nthOk y m w n then nthV y m w n else (0, 0, 0, 2)) := by
  unfold spec_NthWeekday.f
  rw [spec_month_eq, spec_in_eq, spec_in_eq, chain3 _ _ _ (fun t => spec_NthWeekday.j0 (k + 61) y m w n t)]
  simp only [spec_NthWeekday.j0]; rw [ite_notdec]
  by_cases h : nthOk y m w n
  · rw [if_pos h, if_pos h, spec_nth_eq k y m w n h.1.1 h.1.2 h.2]; simp only [Option.bind_some]
    rw [← out_nth y m w n h.2, apply_ite some]
  · rw [if_neg h, if_neg h]

theorem FnExactNthWeekday : laws_FnExactNthWeekday.Pure := by
  intro y m w n _ _ _ _
  refine ⟨61, ?_⟩
  unfold laws_FnExactNthWeekday.f
  rw [spec_NthWeekday_eq 0, impl_NthWeekday_eq 1]; simp only [Option.bind_some, eqDate_refl, if_true]

end Go.Proofs.Ytllapjemdegnjaa.Pure
