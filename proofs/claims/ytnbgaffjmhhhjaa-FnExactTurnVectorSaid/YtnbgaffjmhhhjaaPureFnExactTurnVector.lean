/- Proved: for all arguments the law FnExactTurnVector returns true. Conditions: none. -/
import Derived.Test.YtnbgaffjmhhhjaaQFnExactTurnVectorx4
namespace Go.Proofs.Ytnbgaffjmhhhjaa.Pure
open Go.RowKit Go.Proofs.Ytnbgaffjmhhhjaa.PFnExactTurnVector Go.Proofs.YtnbgaffjmhhhjaaW.PrintWords Go.Proofs.YtnbgaffjmhhhjaaW.PrintLast Go.Proofs.YtnbgaffjmhhhjaaW.PrintMore
set_option linter.unusedVariables false
set_option linter.unusedSimpArgs false

theorem wid (n : Int) (h0 : -9223372036854775808 ≤ n) (h1 : n ≤ 9223372036854775807) : wrap64 n = n := by unfold wrap64; omega

theorem tmodP (a b : Int) (h : 0 ≤ a) : a.tmod b = a % b := Int.tmod_eq_emod_of_nonneg h

theorem tdivP (a b : Int) (h : 0 ≤ a) : a.tdiv b = a / b := Int.tdiv_eq_ediv_of_nonneg h

theorem ediv_bounds (a b : Int) (hb : 0 < b) : b * (a / b) + a % b = a ∧ 0 ≤ a % b ∧ a % b < b := ⟨Int.mul_ediv_add_emod a b, Int.emod_nonneg _ (by omega), Int.emod_lt_of_pos _ hb⟩

/-- Go's truncated quotient and remainder by a positive number, in Lean's floor form. -/
theorem tdiv_pos_spec (a b : Int) (hb : 0 < b) : a.tmod b = (if 0 ≤ a ∨ a % b = 0 then a % b else a % b - b) ∧ a.tdiv b = (if 0 ≤ a ∨ a % b = 0 then a / b else a / b + 1) := by
  have h1 : a.tdiv b = (if 0 ≤ a ∨ a % b = 0 then a / b else a / b + 1) := by
    rw [Int.tdiv_eq_ediv]
    have e : b.sign = 1 := Int.sign_eq_one_of_pos hb
    rw [e]
    have : (b ∣ a) ↔ a % b = 0 := Int.dvd_iff_emod_eq_zero
    by_cases h : 0 ≤ a ∨ a % b = 0
    · rw [if_pos h, if_pos (by rw [this]; exact h)]; omega
    · rw [if_neg h, if_neg (by rw [this]; exact h)]
  refine ⟨?_, h1⟩
  have h2 := Int.mul_tdiv_add_tmod a b
  have h3 := Int.mul_ediv_add_emod a b
  rw [h1] at h2
  by_cases h : 0 ≤ a ∨ a % b = 0
  · rw [if_pos h] at h2 ⊢; omega
  · rw [if_neg h] at h2 ⊢; rw [Int.mul_add] at h2; omega

theorem ediv_range (a b : Int) (hb : 0 < b) (A : Int) (h0 : -A ≤ a) (h1 : a ≤ A) (hA : 0 ≤ A) : -A ≤ a / b ∧ a / b ≤ A := by
  constructor
  · rw [Int.le_ediv_iff_mul_le hb]
    have : -A * b ≤ -A * 1 := by
      have : A * 1 ≤ A * b := Int.mul_le_mul_of_nonneg_left (by omega) hA
      rw [Int.neg_mul, Int.neg_mul]; omega
    omega
  · have : a / b ≤ A / b := Int.ediv_le_ediv hb h1
    have h2 : A / b ≤ A := Int.ediv_le_self _ hA
    omega

theorem impl_in_eq (n lo hi : Int) : impl_in.f n lo hi = some (decide (lo ≤ n ∧ n ≤ hi)) := by
  unfold impl_in.f; by_cases h : n ≥ lo
  · rw [if_pos h]; simp [show lo ≤ n from h]
  · rw [if_neg h]; simp [show ¬ lo ≤ n from h]

theorem spec_in_eq (n lo hi : Int) : spec_l01In.f n lo hi = some (decide (lo ≤ n ∧ n ≤ hi)) := by
  unfold spec_l01In.f; by_cases h : n ≥ lo
  · rw [if_pos h]; simp [show lo ≤ n from h]
  · rw [if_neg h]; simp [show ¬ lo ≤ n from h]

theorem impl_isValue_eq (n : Int) : impl_isValue.f n = some (decide (-1000000000000 ≤ n ∧ n ≤ 1000000000000)) := by
  unfold impl_isValue.f; rw [impl_in_eq]; rfl

theorem spec_is_eq (n : Int) : spec_l01Is.f n = some (decide (-1000000000000 ≤ n ∧ n ≤ 1000000000000)) := by
  unfold spec_l01Is.f; rw [spec_in_eq]; rfl

theorem impl_floor_pos (a b : Int) (hb : 0 < b) (h0 : -9223372036854775807 ≤ a) (h1 : a ≤ 9223372036854775807) : impl_floor.f a b = some (a / b) := by
  have hr := ediv_range a b hb 9223372036854775807 h0 h1 (by omega)
  obtain ⟨e1, e2⟩ := tdiv_pos_spec a b hb
  have hm := Int.emod_nonneg a (show b ≠ 0 by omega)
  have hm2 := Int.emod_lt_of_pos a hb
  unfold impl_floor.f
  rw [if_neg (by omega), e1, e2]
  by_cases h : 0 ≤ a ∨ a % b = 0
  · rw [if_pos h, if_pos h, wid _ (by omega) (by omega)]
    by_cases hz : a % b = 0
    · rw [if_pos hz]
    · rw [if_neg hz, if_neg]
      have : ¬ (a % b < 0) := by omega
      have : ¬ (b < 0) := by omega
      simp [*]
  · rw [if_neg h, if_neg h, if_neg (by omega), if_pos]
    · have : a / b + 1 ≤ 0 := by
        have := Int.ediv_neg_of_neg_of_pos (show a < 0 by omega) hb
        omega
      rw [wid (a / b + 1) (by omega) (by omega), wid _ (by omega) (by omega)]; congr 1; omega
    · have : (a % b - b < 0) := by omega
      have : ¬ (b < 0) := by omega
      simp [*]

theorem impl_floor_neg (a b : Int) (hb : b < 0) (h0 : -9223372036854775807 ≤ a) (h1 : a ≤ 9223372036854775807) : impl_floor.f a b = some ((-a) / (-b)) := by
  have hr := ediv_range (-a) (-b) (by omega) 9223372036854775807 (by omega) (by omega) (by omega)
  obtain ⟨e1, e2⟩ := tdiv_pos_spec (-a) (-b) (by omega)
  have k1 : a.tmod b = - (-a).tmod (-b) := by rw [Int.neg_tmod, Int.tmod_neg]; omega
  have k2 : a.tdiv b = (-a).tdiv (-b) := by rw [Int.neg_tdiv, Int.tdiv_neg]; omega
  have hm := Int.emod_nonneg (-a) (show -b ≠ 0 by omega)
  have hm2 := Int.emod_lt_of_pos (-a) (show 0 < -b by omega)
  unfold impl_floor.f
  rw [if_neg (by omega), k1, k2, e1, e2]
  by_cases h : 0 ≤ -a ∨ -a % -b = 0
  · rw [if_pos h, if_pos h, wid _ (by omega) (by omega)]
    by_cases hz : -a % -b = 0
    · rw [if_pos (by omega)]
    · rw [if_neg (by omega), if_neg]
      rw [decide_eq_true (show -(-a % -b) < 0 by omega), decide_eq_true hb]; decide
  · rw [if_neg h, if_neg h, if_neg (by omega), if_pos]
    · have : -a / -b + 1 ≤ 0 := by
        have := Int.ediv_neg_of_neg_of_pos (show -a < 0 by omega) (show 0 < -b by omega)
        omega
      rw [wid (-a / -b + 1) (by omega) (by omega), wid _ (by omega) (by omega)]; congr 1; omega
    · rw [decide_eq_false (show ¬ (-(-a % -b - -b) < 0) by omega), decide_eq_true hb]; decide

theorem impl_mod_pos (a b : Int) (hb : 0 < b) (hb1 : b ≤ 9223372036854775807) (h0 : -9223372036854775807 ≤ a) (h1 : a ≤ 9223372036854775807) (hab : -9223372036854775807 ≤ a - b) : impl_mod.f a b = some (a % b) := by
  obtain ⟨e, m0, m1⟩ := ediv_bounds a b hb
  unfold impl_mod.f
  rw [impl_floor_pos a b hb h0 h1]
  have e2 : a / b * b = a - a % b := by rw [Int.mul_comm]; omega
  simp only [Option.bind_some]
  rw [e2, wid (a - a % b) (by omega) (by omega), wid _ (by omega) (by omega)]; congr 1; omega

theorem spec_mod_pos (a b : Int) (hb : 0 < b) (hb1 : b ≤ 4611686018427387904) : spec_l01Mod.f a b = some (a % b) := by
  unfold spec_l01Mod.f
  rw [if_neg (by omega)]
  obtain ⟨e1, e2⟩ := tdiv_pos_spec a b hb
  have m0 := Int.emod_nonneg a (show b ≠ 0 by omega)
  have m1 := Int.emod_lt_of_pos a hb
  rw [e1]
  by_cases h : 0 ≤ a ∨ a % b = 0
  · rw [if_pos h, wid _ (by omega) (by omega), tmodP _ _ (by omega), Int.add_emod_right, Int.emod_emod]
  · rw [if_neg h, wid _ (by omega) (by omega), tmodP _ _ (by omega)]
    have : a % b - b + b = a % b := by omega
    rw [this, Int.emod_emod]

theorem spec_floor_pos (a b : Int) (hb : 0 < b) (h0 : -9223372036854775807 ≤ a) (h1 : a ≤ 9223372036854775807) : spec_l01Floor.f a b = some (a / b) := by
  have hr := ediv_range a b hb 9223372036854775807 h0 h1 (by omega)
  obtain ⟨e1, e2⟩ := tdiv_pos_spec a b hb
  have hm := Int.emod_nonneg a (show b ≠ 0 by omega)
  have hm2 := Int.emod_lt_of_pos a hb
  unfold spec_l01Floor.f
  rw [if_neg (by omega), if_neg (by omega), e1, e2]
  by_cases h : 0 ≤ a ∨ a % b = 0
  · rw [if_pos h, if_pos h, if_neg (by omega), wid _ (by omega) (by omega)]
  · rw [if_neg h, if_neg h, if_pos (by omega)]
    have : a / b + 1 ≤ 0 := by
      have := Int.ediv_neg_of_neg_of_pos (show a < 0 by omega) hb
      omega
    rw [wid (a / b + 1) (by omega) (by omega), wid _ (by omega) (by omega)]; congr 1; omega

theorem spec_floor_neg (a b : Int) (hb : b < 0) (hb1 : -9223372036854775807 ≤ b) (h0 : -9223372036854775807 ≤ a) (h1 : a ≤ 9223372036854775807) : spec_l01Floor.f a b = some ((-a) / (-b)) := by
  have h := spec_floor_pos (-a) (-b) (by omega) (by omega) (by omega)
  unfold spec_l01Floor.f at h ⊢
  rw [if_neg (by omega), if_neg (by omega)] at h
  rw [if_pos hb, wid (-a) (by omega) (by omega), wid (-b) (by omega) (by omega), if_neg (by omega)]; exact h

/-- The floor of a fraction, whatever the sign of its denominator. -/
def flr (a b : Int) : Int := if 0 < b then a / b else (-a) / (-b)

theorem impl_floor_eq (a b : Int) (hb : b ≠ 0) (h0 : -9223372036854775807 ≤ a) (h1 : a ≤ 9223372036854775807) : impl_floor.f a b = some (flr a b) := by
  unfold flr; by_cases h : 0 < b
  · rw [if_pos h, impl_floor_pos a b h h0 h1]
  · rw [if_neg h, impl_floor_neg a b (by omega) h0 h1]

theorem spec_floor_eq (a b : Int) (hb : b ≠ 0) (hb1 : -9223372036854775807 ≤ b) (h0 : -9223372036854775807 ≤ a) (h1 : a ≤ 9223372036854775807) : spec_l01Floor.f a b = some (flr a b) := by
  unfold flr; by_cases h : 0 < b
  · rw [if_pos h, spec_floor_pos a b h h0 h1]
  · rw [if_neg h, spec_floor_neg a b (by omega) hb1 h0 h1]

theorem flr_range (a b : Int) (hb : b ≠ 0) (A : Int) (h0 : -A ≤ a) (h1 : a ≤ A) (hA : 0 ≤ A) : -A ≤ flr a b ∧ flr a b ≤ A := by
  unfold flr; by_cases h : 0 < b
  · rw [if_pos h]; exact ediv_range a b h A h0 h1 hA
  · rw [if_neg h]; exact ediv_range (-a) (-b) (by omega) A (by omega) (by omega) hA

theorem impl_ceil_eq (a b : Int) (hb : b ≠ 0) (h0 : -9223372036854775807 ≤ a) (h1 : a ≤ 9223372036854775807) : impl_ceil.f a b = some (-(flr (-a) b)) := by
  have := flr_range (-a) b hb 9223372036854775807 (by omega) (by omega) (by omega)
  unfold impl_ceil.f; rw [wid (-a) (by omega) (by omega), impl_floor_eq (-a) b hb (by omega) (by omega)]; simp only [Option.bind_some]; rw [wid _ (by omega) (by omega)]

theorem spec_ceil_eq (a b : Int) (hb : b ≠ 0) (hb1 : -9223372036854775807 ≤ b) (h0 : -9223372036854775807 ≤ a) (h1 : a ≤ 9223372036854775807) : spec_l01Ceil.f a b = some (-(flr (-a) b)) := by
  have := flr_range (-a) b hb 9223372036854775807 (by omega) (by omega) (by omega)
  unfold spec_l01Ceil.f; rw [wid (-a) (by omega) (by omega), spec_floor_eq (-a) b hb hb1 (by omega) (by omega)]; simp only [Option.bind_some]; rw [wid _ (by omega) (by omega)]

theorem mul_range (x y X Y : Int) (h0 : -X ≤ x) (h1 : x ≤ X) (hy : 0 ≤ y) (hy1 : y ≤ Y) : -(X * Y) ≤ x * y ∧ x * y ≤ X * Y := by
  have hX : 0 ≤ X := by omega
  have k1 : x * y ≤ X * y := Int.mul_le_mul_of_nonneg_right h1 hy
  have k2 : X * y ≤ X * Y := Int.mul_le_mul_of_nonneg_left hy1 hX
  have k3 : (-X) * y ≤ x * y := Int.mul_le_mul_of_nonneg_right h0 hy
  rw [Int.neg_mul] at k3
  omega

theorem bind_dec {α : Type} (p : Prop) [Decidable p] (A : Option α) (B : α) : ((some (decide p)).bind fun t => if t = true then A else some B) = if p then A else some B := by
  by_cases h : p <;> simp [h]

theorem dec_and (p q : Prop) [Decidable p] [Decidable q] : (if decide p = true then some (decide q) else some false) = some (decide (p ∧ q)) := by
  by_cases h : p <;> simp [h]

theorem some_dec {p q : Prop} [Decidable p] [Decidable q] (h : p ↔ q) : some (decide p) = some (decide q) := by rw [decide_eq_decide.2 h]

theorem impl_isInterval_eq (a b : Int) : impl_IsInterval.f a b = some (decide (-1000000000000 ≤ a ∧ b ≤ 1000000000000 ∧ a ≤ b)) := by
  unfold impl_IsInterval.f
  rw [impl_isValue_eq, impl_isValue_eq]
  simp only [Option.bind_some, dec_and]
  apply some_dec; omega

theorem impl_within_eq (a b m : Int) (h0 : 0 ≤ m) (h1 : m ≤ 1000000000000) : impl_Interval_within.f a b m = some (decide (-m ≤ a ∧ a ≤ m ∧ -m ≤ b ∧ b ≤ m)) := by
  unfold impl_Interval_within.f
  rw [wid (-m) (by omega) (by omega), impl_in_eq, impl_in_eq]
  simp only [Option.bind_some, dec_and]
  apply some_dec; omega

theorem eqInterval_refl (a b : Int) : laws_eqInterval.f a b a b = some true := by
  unfold laws_eqInterval.f; rw [if_pos rfl, if_pos rfl]

theorem mul_abs (x y X Y : Int) (h0 : -X ≤ x) (h1 : x ≤ X) (h2 : -Y ≤ y) (h3 : y ≤ Y) : -(X * Y) ≤ x * y ∧ x * y ≤ X * Y := by
  by_cases h : 0 ≤ y
  · exact mul_range x y X Y h0 h1 h h3
  · have := mul_range x (-y) X Y h0 h1 (by omega) (by omega)
    rw [Int.mul_neg] at this; omega

def mulLo (a b c d : Int) : Int := (mn (mn (mn (a * c) (a * d)) (b * c)) (b * d)) / 1000000

def mulHi (a b c d : Int) : Int := -((-(mx (mx (mx (a * c) (a * d)) (b * c)) (b * d))) / 1000000)

theorem flr_pos (a b : Int) (h : 0 < b) : flr a b = a / b := by unfold flr; rw [if_pos h]

/-- The products of two intervals whose bounds are at most A and B. -/
theorem prods (a b c d A B : Int) (ha : -A ≤ a ∧ a ≤ A) (hb : -A ≤ b ∧ b ≤ A) (hc : -B ≤ c ∧ c ≤ B) (hd : -B ≤ d ∧ d ≤ B) :
    (-(A * B) ≤ a * c ∧ a * c ≤ A * B) ∧ (-(A * B) ≤ a * d ∧ a * d ≤ A * B) ∧ (-(A * B) ≤ b * c ∧ b * c ≤ A * B) ∧ (-(A * B) ≤ b * d ∧ b * d ≤ A * B) :=
  ⟨mul_abs a c A B ha.1 ha.2 hc.1 hc.2, mul_abs a d A B ha.1 ha.2 hd.1 hd.2, mul_abs b c A B hb.1 hb.2 hc.1 hc.2, mul_abs b d A B hb.1 hb.2 hd.1 hd.2⟩

theorem mul_bounds (a b c d M : Int) (h1 : -M ≤ a * c ∧ a * c ≤ M) (h2 : -M ≤ a * d ∧ a * d ≤ M) (h3 : -M ≤ b * c ∧ b * c ≤ M) (h4 : -M ≤ b * d ∧ b * d ≤ M) :
    (-M ≤ mn (mn (mn (a * c) (a * d)) (b * c)) (b * d) ∧ mn (mn (mn (a * c) (a * d)) (b * c)) (b * d) ≤ M) ∧ (-M ≤ mx (mx (mx (a * c) (a * d)) (b * c)) (b * d) ∧ mx (mx (mx (a * c) (a * d)) (b * c)) (b * d) ≤ M) := by
  unfold mn mx
  generalize a * c = p at *; generalize a * d = q at *; generalize b * c = r at *; generalize b * d = s at *
  constructor
  · repeat' split
    all_goals omega
  · repeat' split
    all_goals omega

theorem impl_times_eq (a b c d M : Int) (hM : M ≤ 4000000000000000000) (h1 : -M ≤ a * c ∧ a * c ≤ M) (h2 : -M ≤ a * d ∧ a * d ≤ M) (h3 : -M ≤ b * c ∧ b * c ≤ M) (h4 : -M ≤ b * d ∧ b * d ≤ M) :
    impl_Interval_times.f a b c d = some (mulLo a b c d, mulHi a b c d) := by
  obtain ⟨k1, k2⟩ := mul_bounds a b c d M h1 h2 h3 h4
  unfold impl_Interval_times.f mulLo mulHi
  rw [wid (a * c) (by omega) (by omega), wid (a * d) (by omega) (by omega), wid (b * c) (by omega) (by omega), wid (b * d) (by omega) (by omega),
    impl_floor_pos _ _ (by omega) (by omega) (by omega), impl_ceil_eq _ _ (by omega) (by omega) (by omega), flr_pos _ _ (by omega)]; rfl

theorem spec_mul_eq (a b c d M : Int) (hM : M ≤ 4000000000000000000) (h1 : -M ≤ a * c ∧ a * c ≤ M) (h2 : -M ≤ a * d ∧ a * d ≤ M) (h3 : -M ≤ b * c ∧ b * c ≤ M) (h4 : -M ≤ b * d ∧ b * d ≤ M) :
    spec_l02Mul.f a b c d = some (mulLo a b c d, mulHi a b c d) := by
  obtain ⟨k1, k2⟩ := mul_bounds a b c d M h1 h2 h3 h4
  unfold spec_l02Mul.f mulLo mulHi
  rw [wid (a * c) (by omega) (by omega), wid (a * d) (by omega) (by omega), wid (b * c) (by omega) (by omega), wid (b * d) (by omega) (by omega),
    spec_floor_pos _ _ (by omega) (by omega) (by omega), spec_ceil_eq _ _ (by omega) (by omega) (by omega) (by omega), flr_pos _ _ (by omega)]; rfl

/-- The product's bounds, in millionths. -/
theorem mul_out (a b c d M : Int) (hM : 0 ≤ M) (h1 : -M ≤ a * c ∧ a * c ≤ M) (h2 : -M ≤ a * d ∧ a * d ≤ M) (h3 : -M ≤ b * c ∧ b * c ≤ M) (h4 : -M ≤ b * d ∧ b * d ≤ M) :
    -(M / 1000000 + 1) ≤ mulLo a b c d ∧ mulLo a b c d ≤ M / 1000000 + 1 ∧ -(M / 1000000 + 1) ≤ mulHi a b c d ∧ mulHi a b c d ≤ M / 1000000 + 1 := by
  obtain ⟨k1, k2⟩ := mul_bounds a b c d M h1 h2 h3 h4
  unfold mulLo mulHi; omega

theorem impl_plain_eq (a : Int) (h0 : -9000000000000000000 ≤ a) (h1 : a ≤ 9000000000000000000) : impl_plain.f a = some (a % 1296000) := by
  unfold impl_plain.f; rw [impl_mod_pos a _ (by omega) (by omega) (by omega) (by omega) (by omega)]; rfl

theorem spec_plain_eq (a : Int) : spec_l03Plain.f a = some (a % 1296000) := by
  unfold spec_l03Plain.f; rw [spec_mod_pos a _ (by omega) (by omega)]; rfl

def tst (T Y d : Int) : Int := T * Y / 1000000000 / d

theorem tst_range (T Y d : Int) (h0 : 0 ≤ T) (h1 : 0 ≤ Y) (h2 : Y ≤ 1000000000) (hd : 0 < d) : 0 ≤ tst T Y d ∧ tst T Y d ≤ T := by
  unfold tst
  have m0 : 0 ≤ T * Y := Int.mul_nonneg h0 h1
  have m1 : T * Y ≤ T * 1000000000 := Int.mul_le_mul_of_nonneg_left h2 h0
  have q0 : 0 ≤ T * Y / 1000000000 := by omega
  have q1 : T * Y / 1000000000 ≤ T := by omega
  exact ⟨Int.ediv_nonneg q0 (by omega), Int.le_trans (Int.ediv_le_self d q0) q1⟩

theorem tstep (T Y d : Int) (h0 : 0 ≤ T) (h1 : T ≤ 1000000000) (h2 : 0 ≤ Y) (h3 : Y ≤ 1000000000) (hd : 0 < d) :
    wrap64 (Int.tdiv (wrap64 (Int.tdiv (wrap64 (T * Y)) 1000000000)) d) = tst T Y d := by
  have m0 : 0 ≤ T * Y := Int.mul_nonneg h0 h2
  have m1 : T * Y ≤ T * 1000000000 := Int.mul_le_mul_of_nonneg_left h3 h0
  obtain ⟨k0, k1⟩ := tst_range T Y d h0 h2 h3 hd
  rw [wid (T * Y) (by omega) (by omega), tdivP _ _ m0, wid (T * Y / 1000000000) (by omega) (by omega), tdivP _ _ (by omega)]
  exact wid _ (by unfold tst at k0; omega) (by unfold tst at k1; omega)

def pX (r : Int) : Int := r * 48481368 / 10000

def pY (r : Int) : Int := pX r * pX r / 1000000000

def pT3 (r : Int) : Int := tst (pX r) (pY r) 6

def pT5 (r : Int) : Int := tst (pT3 r) (pY r) 20

def pT7 (r : Int) : Int := tst (pT5 r) (pY r) 42

def pT9 (r : Int) : Int := tst (pT7 r) (pY r) 72

def pC2 (r : Int) : Int := pY r / 2

def pC4 (r : Int) : Int := tst (pC2 r) (pY r) 12

def pC6 (r : Int) : Int := tst (pC4 r) (pY r) 30

def pC8 (r : Int) : Int := tst (pC6 r) (pY r) 56

def pC10 (r : Int) : Int := tst (pC8 r) (pY r) 90

def polyP (r : Int) : Int := pX r - pT3 r + pT5 r - pT7 r + pT9 r

def polyQ (r : Int) : Int := 1000000000 - pC2 r + pC4 r - pC6 r + pC8 r - pC10 r

theorem pX_range (r : Int) (h0 : 0 ≤ r) (h1 : r ≤ 162000) : 0 ≤ pX r ∧ pX r ≤ 785398162 := by unfold pX; omega

theorem pY_range (r : Int) (h0 : 0 ≤ r) (h1 : r ≤ 162000) : 0 ≤ pY r ∧ pY r ≤ 785398162 := by
  obtain ⟨a, b⟩ := pX_range r h0 h1
  have m0 : 0 ≤ pX r * pX r := Int.mul_nonneg a a
  have m1 : pX r * pX r ≤ pX r * 785398162 := Int.mul_le_mul_of_nonneg_left b a
  unfold pY; omega

theorem pT_range (r : Int) (h0 : 0 ≤ r) (h1 : r ≤ 162000) : (0 ≤ pT3 r ∧ pT3 r ≤ pX r) ∧ (0 ≤ pT5 r ∧ pT5 r ≤ pT3 r) ∧ (0 ≤ pT7 r ∧ pT7 r ≤ pT5 r) ∧ (0 ≤ pT9 r ∧ pT9 r ≤ pT7 r) := by
  have a := pX_range r h0 h1
  have y := pY_range r h0 h1
  have t3 : 0 ≤ pT3 r ∧ pT3 r ≤ pX r := tst_range _ _ _ (by omega) (by omega) (by omega) (by omega)
  have t5 : 0 ≤ pT5 r ∧ pT5 r ≤ pT3 r := tst_range _ _ _ (by omega) (by omega) (by omega) (by omega)
  have t7 : 0 ≤ pT7 r ∧ pT7 r ≤ pT5 r := tst_range _ _ _ (by omega) (by omega) (by omega) (by omega)
  have t9 : 0 ≤ pT9 r ∧ pT9 r ≤ pT7 r := tst_range _ _ _ (by omega) (by omega) (by omega) (by omega)
  exact ⟨t3, t5, t7, t9⟩

theorem pC_range (r : Int) (h0 : 0 ≤ r) (h1 : r ≤ 162000) : (0 ≤ pC2 r ∧ pC2 r ≤ 392699081) ∧ (0 ≤ pC4 r ∧ pC4 r ≤ pC2 r) ∧ (0 ≤ pC6 r ∧ pC6 r ≤ pC4 r) ∧ (0 ≤ pC8 r ∧ pC8 r ≤ pC6 r) ∧ (0 ≤ pC10 r ∧ pC10 r ≤ pC8 r) := by
  have y := pY_range r h0 h1
  have c2 : 0 ≤ pC2 r ∧ pC2 r ≤ 392699081 := by unfold pC2; omega
  have c4 : 0 ≤ pC4 r ∧ pC4 r ≤ pC2 r := tst_range _ _ _ (by omega) (by omega) (by omega) (by omega)
  have c6 : 0 ≤ pC6 r ∧ pC6 r ≤ pC4 r := tst_range _ _ _ (by omega) (by omega) (by omega) (by omega)
  have c8 : 0 ≤ pC8 r ∧ pC8 r ≤ pC6 r := tst_range _ _ _ (by omega) (by omega) (by omega) (by omega)
  have c10 : 0 ≤ pC10 r ∧ pC10 r ≤ pC8 r := tst_range _ _ _ (by omega) (by omega) (by omega) (by omega)
  exact ⟨c2, c4, c6, c8, c10⟩

theorem polyP_range (r : Int) (h0 : 0 ≤ r) (h1 : r ≤ 162000) : -2000000000 ≤ polyP r ∧ polyP r ≤ 2500000000 := by
  have a := pX_range r h0 h1; have t := pT_range r h0 h1
  unfold polyP; omega

theorem polyQ_range (r : Int) (h0 : 0 ≤ r) (h1 : r ≤ 162000) : -2000000000 ≤ polyQ r ∧ polyQ r ≤ 2500000000 := by
  have t := pC_range r h0 h1
  unfold polyQ; omega

theorem spec_arc_eq (r : Int) (h0 : 0 ≤ r) (h1 : r ≤ 162000) : spec_l04Arc.f r = some (pX r, pY r) := by
  obtain ⟨a, b⟩ := pX_range r h0 h1
  have m0 : 0 ≤ pX r * pX r := Int.mul_nonneg a a
  have m1 : pX r * pX r ≤ pX r * 785398162 := Int.mul_le_mul_of_nonneg_left b a
  have e : wrap64 (Int.tdiv (wrap64 (r * 48481368)) 10000) = pX r := by
    rw [wid (r * 48481368) (by omega) (by omega), tdivP _ _ (by omega)]; exact wid (pX r) (by omega) (by omega)
  have e2 : wrap64 (Int.tdiv (wrap64 (pX r * pX r)) 1000000000) = pY r := by
    have y := pY_range r h0 h1
    rw [wid (pX r * pX r) (by omega) (by omega), tdivP _ _ m0]; exact wid (pY r) (by omega) (by omega)
  unfold spec_l04Arc.f
  rw [e, e2]

theorem spec_P_eq (r : Int) (h0 : 0 ≤ r) (h1 : r ≤ 162000) : spec_l04P.f r = some (polyP r) := by
  have a := pX_range r h0 h1; have y := pY_range r h0 h1; obtain ⟨t3, t5, t7, t9⟩ := pT_range r h0 h1
  unfold spec_l04P.f
  rw [spec_arc_eq r h0 h1]
  simp only [Option.bind_some]
  rw [tstep (pX r) (pY r) 6 (by omega) (by omega) (by omega) (by omega) (by omega), show tst (pX r) (pY r) 6 = pT3 r from rfl,
    tstep (pT3 r) (pY r) 20 (by omega) (by omega) (by omega) (by omega) (by omega), show tst (pT3 r) (pY r) 20 = pT5 r from rfl,
    tstep (pT5 r) (pY r) 42 (by omega) (by omega) (by omega) (by omega) (by omega), show tst (pT5 r) (pY r) 42 = pT7 r from rfl,
    tstep (pT7 r) (pY r) 72 (by omega) (by omega) (by omega) (by omega) (by omega), show tst (pT7 r) (pY r) 72 = pT9 r from rfl,
    wid (pX r - pT3 r) (by omega) (by omega), wid (pX r - pT3 r + pT5 r) (by omega) (by omega), wid (pX r - pT3 r + pT5 r - pT7 r) (by omega) (by omega), wid (pX r - pT3 r + pT5 r - pT7 r + pT9 r) (by omega) (by omega)]
  rfl

theorem spec_Q_eq (r : Int) (h0 : 0 ≤ r) (h1 : r ≤ 162000) : spec_l04Q.f r = some (polyQ r) := by
  have y := pY_range r h0 h1; obtain ⟨c2, c4, c6, c8, c10⟩ := pC_range r h0 h1
  have e2 : wrap64 (Int.tdiv (pY r) 2) = pC2 r := by rw [tdivP _ _ (by omega)]; exact wid (pC2 r) (by omega) (by omega)
  unfold spec_l04Q.f
  rw [spec_arc_eq r h0 h1]
  simp only [Option.bind_some]
  rw [e2, tstep (pC2 r) (pY r) 12 (by omega) (by omega) (by omega) (by omega) (by omega), show tst (pC2 r) (pY r) 12 = pC4 r from rfl,
    tstep (pC4 r) (pY r) 30 (by omega) (by omega) (by omega) (by omega) (by omega), show tst (pC4 r) (pY r) 30 = pC6 r from rfl,
    tstep (pC6 r) (pY r) 56 (by omega) (by omega) (by omega) (by omega) (by omega), show tst (pC6 r) (pY r) 56 = pC8 r from rfl,
    tstep (pC8 r) (pY r) 90 (by omega) (by omega) (by omega) (by omega) (by omega), show tst (pC8 r) (pY r) 90 = pC10 r from rfl,
    wid (1000000000 - pC2 r) (by omega) (by omega), wid (1000000000 - pC2 r + pC4 r) (by omega) (by omega), wid (1000000000 - pC2 r + pC4 r - pC6 r) (by omega) (by omega), wid (1000000000 - pC2 r + pC4 r - pC6 r + pC8 r) (by omega) (by omega), wid (1000000000 - pC2 r + pC4 r - pC6 r + pC8 r - pC10 r) (by omega) (by omega)]
  rfl

theorem impl_poly_eq (r : Int) (h0 : 0 ≤ r) (h1 : r ≤ 162000) : impl_polynomials.f r = some (polyP r, polyQ r) := by
  obtain ⟨a, b⟩ := pX_range r h0 h1
  have y := pY_range r h0 h1; obtain ⟨t3, t5, t7, t9⟩ := pT_range r h0 h1; obtain ⟨c2, c4, c6, c8, c10⟩ := pC_range r h0 h1
  have m0 : 0 ≤ pX r * pX r := Int.mul_nonneg a a
  have m1 : pX r * pX r ≤ pX r * 785398162 := Int.mul_le_mul_of_nonneg_left b a
  have e : wrap64 (Int.tdiv (wrap64 (r * 48481368)) 10000) = pX r := by
    rw [wid (r * 48481368) (by omega) (by omega), tdivP _ _ (by omega)]; exact wid (pX r) (by omega) (by omega)
  have e1 : wrap64 (Int.tdiv (wrap64 (pX r * pX r)) 1000000000) = pY r := by
    rw [wid (pX r * pX r) (by omega) (by omega), tdivP _ _ m0]; exact wid (pY r) (by omega) (by omega)
  have e2 : wrap64 (Int.tdiv (pY r) 2) = pC2 r := by rw [tdivP _ _ (by omega)]; exact wid (pC2 r) (by omega) (by omega)
  unfold impl_polynomials.f
  rw [e, e1, e2, tstep (pX r) (pY r) 6 (by omega) (by omega) (by omega) (by omega) (by omega), show tst (pX r) (pY r) 6 = pT3 r from rfl,
    tstep (pT3 r) (pY r) 20 (by omega) (by omega) (by omega) (by omega) (by omega), show tst (pT3 r) (pY r) 20 = pT5 r from rfl,
    tstep (pT5 r) (pY r) 42 (by omega) (by omega) (by omega) (by omega) (by omega), show tst (pT5 r) (pY r) 42 = pT7 r from rfl,
    tstep (pT7 r) (pY r) 72 (by omega) (by omega) (by omega) (by omega) (by omega), show tst (pT7 r) (pY r) 72 = pT9 r from rfl,
    wid (pX r - pT3 r) (by omega) (by omega), wid (pX r - pT3 r + pT5 r) (by omega) (by omega), wid (pX r - pT3 r + pT5 r - pT7 r) (by omega) (by omega), wid (pX r - pT3 r + pT5 r - pT7 r + pT9 r) (by omega) (by omega),
    tstep (pC2 r) (pY r) 12 (by omega) (by omega) (by omega) (by omega) (by omega), show tst (pC2 r) (pY r) 12 = pC4 r from rfl,
    tstep (pC4 r) (pY r) 30 (by omega) (by omega) (by omega) (by omega) (by omega), show tst (pC4 r) (pY r) 30 = pC6 r from rfl,
    tstep (pC6 r) (pY r) 56 (by omega) (by omega) (by omega) (by omega) (by omega), show tst (pC6 r) (pY r) 56 = pC8 r from rfl,
    tstep (pC8 r) (pY r) 90 (by omega) (by omega) (by omega) (by omega) (by omega), show tst (pC8 r) (pY r) 90 = pC10 r from rfl,
    wid (1000000000 - pC2 r) (by omega) (by omega), wid (1000000000 - pC2 r + pC4 r) (by omega) (by omega), wid (1000000000 - pC2 r + pC4 r - pC6 r) (by omega) (by omega), wid (1000000000 - pC2 r + pC4 r - pC6 r + pC8 r) (by omega) (by omega), wid (1000000000 - pC2 r + pC4 r - pC6 r + pC8 r - pC10 r) (by omega) (by omega)]
  rfl

/-- The sine in nano units, in the first half turn's quarters: q the quarter, r the angle within it. -/
def qsin (q r : Int) : Int := if r ≤ 162000 then (if q < 2 then polyP r else -(polyP r)) else (if q < 2 then polyQ (324000 - r) else -(polyQ (324000 - r)))

def nsin (a : Int) : Int := if a % 1296000 / 324000 % 2 = 1 then qsin (a % 1296000 / 324000) (324000 - a % 1296000 % 324000) else qsin (a % 1296000 / 324000) (a % 1296000 % 324000)

theorem qsin_range (q r : Int) (h0 : 0 ≤ r) (h1 : r ≤ 324000) : -2500000000 ≤ qsin q r ∧ qsin q r ≤ 2500000000 := by
  unfold qsin
  by_cases h : r ≤ 162000
  · have := polyP_range r h0 h
    rw [if_pos h]; by_cases c : q < 2
    · rw [if_pos c]; omega
    · rw [if_neg c]; omega
  · have := polyQ_range (324000 - r) (by omega) (by omega)
    rw [if_neg h]; by_cases c : q < 2
    · rw [if_pos c]; omega
    · rw [if_neg c]; omega

theorem nsin_range (a : Int) : -2500000000 ≤ nsin a ∧ nsin a ≤ 2500000000 := by
  unfold nsin
  by_cases h : a % 1296000 / 324000 % 2 = 1
  · rw [if_pos h]; exact qsin_range _ _ (by omega) (by omega)
  · rw [if_neg h]; exact qsin_range _ _ (by omega) (by omega)

theorem impl_nanoSine_j (k : Nat) (q r : Int) (h0 : 0 ≤ r) (h1 : r ≤ 324000) : impl_nanoSine.j0 (k + 1) q r = some (qsin q r) := by
  simp only [impl_nanoSine.j0]; unfold qsin
  by_cases h : r ≤ 162000
  · have := polyP_range r h0 h
    rw [if_pos h, if_pos h, impl_poly_eq r h0 h]; simp only [Option.bind_some]
    rw [wid (-polyP r) (by omega) (by omega), apply_ite some]
  · have := polyQ_range (324000 - r) (by omega) (by omega)
    rw [if_neg h, if_neg h, wid (324000 - r) (by omega) (by omega), impl_poly_eq (324000 - r) (by omega) (by omega)]; simp only [Option.bind_some]
    rw [wid (-polyQ (324000 - r)) (by omega) (by omega), apply_ite some]

theorem spec_l04Sine_j (k : Nat) (q r : Int) (h0 : 0 ≤ r) (h1 : r ≤ 324000) : spec_l04Sine.j0 (k + 1) q r = some (qsin q r) := by
  simp only [spec_l04Sine.j0]; unfold qsin
  by_cases h : r ≤ 162000
  · have := polyP_range r h0 h
    rw [if_pos h, if_pos h, spec_P_eq r h0 h]; simp only [Option.bind_some]
    rw [wid (-polyP r) (by omega) (by omega)]
    by_cases c : q < 2
    · rw [if_pos c, if_neg (by omega)]
    · rw [if_neg c, if_pos (by omega)]
  · have := polyQ_range (324000 - r) (by omega) (by omega)
    rw [if_neg h, if_neg h, wid (324000 - r) (by omega) (by omega), spec_Q_eq (324000 - r) (by omega) (by omega)]; simp only [Option.bind_some]
    rw [wid (-polyQ (324000 - r)) (by omega) (by omega)]
    by_cases c : q < 2
    · rw [if_pos c, if_neg (by omega)]
    · rw [if_neg c, if_pos (by omega)]

theorem impl_nanoSine_eq (k : Nat) (a : Int) (h0 : -9000000000000000000 ≤ a) (h1 : a ≤ 9000000000000000000) : impl_nanoSine.f (k + 1) a = some (nsin a) := by
  unfold impl_nanoSine.f nsin
  rw [impl_plain_eq a h0 h1]; simp only [Option.bind_some]
  rw [tdivP _ _ (show 0 ≤ a % 1296000 by omega), tmodP _ _ (show 0 ≤ a % 1296000 by omega), wid (a % 1296000 / 324000) (by omega) (by omega), tmodP _ _ (show 0 ≤ a % 1296000 / 324000 by omega), wid (324000 - a % 1296000 % 324000) (by omega) (by omega),
    impl_nanoSine_j k _ _ (by omega) (by omega), impl_nanoSine_j k _ _ (by omega) (by omega), apply_ite some]

theorem spec_nanoSine_eq (k : Nat) (a : Int) : spec_l04Sine.f (k + 1) a = some (nsin a) := by
  unfold spec_l04Sine.f nsin
  rw [spec_plain_eq a]; simp only [Option.bind_some]
  rw [tdivP _ _ (show 0 ≤ a % 1296000 by omega), tmodP _ _ (show 0 ≤ a % 1296000 by omega), wid (a % 1296000 / 324000) (by omega) (by omega), tmodP _ _ (show 0 ≤ a % 1296000 / 324000 by omega), wid (324000 - a % 1296000 % 324000) (by omega) (by omega),
    spec_l04Sine_j k _ _ (by omega) (by omega), spec_l04Sine_j k _ _ (by omega) (by omega), apply_ite some]

abbrev isV (a : Int) : Prop := -1000000000000 ≤ a ∧ a ≤ 1000000000000

def sLo (n : Int) : Int := (n - 60) / 1000

def sHi (n : Int) : Int := -((-(n + 60)) / 1000)

theorem spec_interval_eq (n : Int) (h0 : -4000000000000000000 ≤ n) (h1 : n ≤ 4000000000000000000) : spec_l04Interval.f n = some (sLo n, sHi n) := by
  unfold spec_l04Interval.f sLo sHi
  rw [wid (n - 60) (by omega) (by omega), wid (n + 60) (by omega) (by omega), spec_floor_pos _ _ (by omega) (by omega) (by omega), spec_ceil_eq _ _ (by omega) (by omega) (by omega) (by omega), flr_pos _ _ (by omega)]; rfl

theorem impl_sine_eq (k : Nat) (a : Int) (h0 : -9000000000000000000 ≤ a) (h1 : a ≤ 9000000000000000000) : impl_sine.f (k + 1) a = some (sLo (nsin a), sHi (nsin a)) := by
  have := nsin_range a
  unfold impl_sine.f sLo sHi
  rw [impl_nanoSine_eq k a h0 h1]; simp only [Option.bind_some]
  rw [wid (nsin a - 60) (by omega) (by omega), wid (nsin a + 60) (by omega) (by omega), impl_floor_pos _ _ (by omega) (by omega) (by omega), impl_ceil_eq _ _ (by omega) (by omega) (by omega), flr_pos _ _ (by omega)]; rfl

theorem spec_sin_eq (k : Nat) (a : Int) : spec_l04Sin.f (k + 1) a = some (sLo (nsin a), sHi (nsin a)) := by
  have := nsin_range a
  unfold spec_l04Sin.f
  rw [spec_nanoSine_eq k a]; simp only [Option.bind_some]
  rw [spec_interval_eq _ (by omega) (by omega)]; rfl

theorem s_range (a : Int) : (-2600000 ≤ sLo (nsin a) ∧ sLo (nsin a) ≤ 2600000) ∧ (-2600000 ≤ sHi (nsin a) ∧ sHi (nsin a) ≤ 2600000) := by
  have := nsin_range a
  unfold sLo sHi; omega

theorem impl_cosine_eq (k : Nat) (a : Int) (h0 : -8000000000000000000 ≤ a) (h1 : a ≤ 8000000000000000000) : impl_cosine.f (k + 1) a = some (sLo (nsin (a + 324000)), sHi (nsin (a + 324000))) := by
  unfold impl_cosine.f; rw [wid _ (by omega) (by omega), impl_sine_eq k _ (by omega) (by omega)]; rfl

theorem spec_nanoCosine_eq (k : Nat) (a : Int) (h0 : -8000000000000000000 ≤ a) (h1 : a ≤ 8000000000000000000) : spec_l04Cosine.f (k + 1) a = some (nsin (a + 324000)) := by
  unfold spec_l04Cosine.f; rw [wid _ (by omega) (by omega), spec_nanoSine_eq k]; rfl

theorem spec_cos_eq (k : Nat) (a : Int) (h0 : -8000000000000000000 ≤ a) (h1 : a ≤ 8000000000000000000) : spec_l04Cos.f (k + 1) a = some (sLo (nsin (a + 324000)), sHi (nsin (a + 324000))) := by
  have := nsin_range (a + 324000)
  unfold spec_l04Cos.f; rw [spec_nanoCosine_eq k a h0 h1]; simp only [Option.bind_some]
  rw [spec_interval_eq _ (by omega) (by omega)]; rfl

theorem impl_isPart_eq (a b : Int) : impl_isPart.f a b = some (decide (-10000000 ≤ a ∧ b ≤ 10000000 ∧ a ≤ b)) := by
  unfold impl_isPart.f
  rw [impl_isInterval_eq, impl_within_eq _ _ _ (by omega) (by omega)]
  simp only [Option.bind_some, dec_and]
  apply some_dec; omega

theorem spec_part_eq (a b : Int) : spec_l06Part.f a b = some (decide (-10000000 ≤ a ∧ b ≤ 10000000 ∧ a ≤ b)) := by
  unfold spec_l06Part.f
  rw [spec_in_eq, spec_in_eq]
  simp only [Option.bind_some, dec_and]
  apply some_dec; omega

abbrev isVec (a b c d e f : Int) : Prop := (-10000000 ≤ a ∧ b ≤ 10000000 ∧ a ≤ b) ∧ (-10000000 ≤ c ∧ d ≤ 10000000 ∧ c ≤ d) ∧ (-10000000 ≤ e ∧ f ≤ 10000000 ∧ e ≤ f)

theorem spec_isVec_eq (a b c d e f : Int) : spec_IsVector.f a b c d e f = some (decide (isVec a b c d e f)) := by
  unfold spec_IsVector.f; rw [spec_part_eq, spec_part_eq, spec_part_eq]
  simp only [Option.bind_some, dec_and]

theorem impl_isVec_eq (a b c d e f : Int) : impl_IsVector.f a b c d e f = some (decide (isVec a b c d e f)) := by
  unfold impl_IsVector.f; rw [impl_isPart_eq, impl_isPart_eq, impl_isPart_eq]
  simp only [Option.bind_some, dec_and]

theorem toVector_eq (a b c d e f : Int) : laws_toVector.f a b c d e f = some (a, b, c, d, e, f) := rfl

theorem eqVector_refl (a b c d e f : Int) : laws_eqVector.f a b c d e f a b c d e f = some true := by
  unfold laws_eqVector.f; rw [eqInterval_refl, eqInterval_refl, eqInterval_refl]; rfl

def bnd (a b c d e f : Int) : Int × Int × Int × Int × Int × Int × Int := if isVec a b c d e f then (a, b, c, d, e, f, 0) else (0, 0, 0, 0, 0, 0, 3)

theorem impl_bounded_eq (a b c d e f : Int) : impl_bounded.f a b c d e f = some (bnd a b c d e f) := by
  unfold impl_bounded.f bnd; rw [impl_isVec_eq, bind_dec, apply_ite some]

theorem spec_l06Result_eq (a b c d e f : Int) : spec_l06Result.f a b c d e f = some (bnd a b c d e f) := by
  unfold spec_l06Result.f bnd; rw [spec_isVec_eq, bind_dec, apply_ite some]

theorem impl_plus_eq (a b c d : Int) (h1 : -4000000000000000000 ≤ a ∧ a ≤ 4000000000000000000) (h2 : -4000000000000000000 ≤ b ∧ b ≤ 4000000000000000000) (h3 : -4000000000000000000 ≤ c ∧ c ≤ 4000000000000000000) (h4 : -4000000000000000000 ≤ d ∧ d ≤ 4000000000000000000) : impl_Interval_plus.f a b c d = some (a + c, b + d) := by
  unfold impl_Interval_plus.f; rw [wid _ (by omega) (by omega), wid _ (by omega) (by omega)]

theorem spec_add_eq (a b c d : Int) (h1 : -4000000000000000000 ≤ a ∧ a ≤ 4000000000000000000) (h2 : -4000000000000000000 ≤ b ∧ b ≤ 4000000000000000000) (h3 : -4000000000000000000 ≤ c ∧ c ≤ 4000000000000000000) (h4 : -4000000000000000000 ≤ d ∧ d ≤ 4000000000000000000) : spec_l02Add.f a b c d = some (a + c, b + d) := by
  unfold spec_l02Add.f; rw [wid _ (by omega) (by omega), wid _ (by omega) (by omega)]

theorem impl_minus_eq (a b c d : Int) (h1 : -4000000000000000000 ≤ a ∧ a ≤ 4000000000000000000) (h2 : -4000000000000000000 ≤ b ∧ b ≤ 4000000000000000000) (h3 : -4000000000000000000 ≤ c ∧ c ≤ 4000000000000000000) (h4 : -4000000000000000000 ≤ d ∧ d ≤ 4000000000000000000) : impl_Interval_minus.f a b c d = some (a - d, b - c) := by
  unfold impl_Interval_minus.f; rw [wid _ (by omega) (by omega), wid _ (by omega) (by omega)]

theorem spec_sub_eq (a b c d : Int) (h1 : -4000000000000000000 ≤ a ∧ a ≤ 4000000000000000000) (h2 : -4000000000000000000 ≤ b ∧ b ≤ 4000000000000000000) (h3 : -4000000000000000000 ≤ c ∧ c ≤ 4000000000000000000) (h4 : -4000000000000000000 ≤ d ∧ d ≤ 4000000000000000000) : spec_l02Sub.f a b c d = some (a - d, b - c) := by
  unfold spec_l02Sub.f; rw [wid _ (by omega) (by omega), wid _ (by omega) (by omega)]

/-- The products of two parts: each in bounds. -/
theorem part_mul (a b c d A B M : Int) (hM : M = A * B) (hM0 : 0 ≤ M) (hM1 : M ≤ 4000000000000000000) (ha : -A ≤ a ∧ a ≤ A) (hb : -A ≤ b ∧ b ≤ A) (hc : -B ≤ c ∧ c ≤ B) (hd : -B ≤ d ∧ d ≤ B) :
    impl_Interval_times.f a b c d = some (mulLo a b c d, mulHi a b c d) := by
  obtain ⟨p1, p2, p3, p4⟩ := prods a b c d A B ha hb hc hd
  rw [← hM] at p1 p2 p3 p4
  exact impl_times_eq a b c d M hM1 p1 p2 p3 p4

theorem part_mul_spec (a b c d A B M : Int) (hM : M = A * B) (hM0 : 0 ≤ M) (hM1 : M ≤ 4000000000000000000) (ha : -A ≤ a ∧ a ≤ A) (hb : -A ≤ b ∧ b ≤ A) (hc : -B ≤ c ∧ c ≤ B) (hd : -B ≤ d ∧ d ≤ B) :
    spec_l02Mul.f a b c d = some (mulLo a b c d, mulHi a b c d) := by
  obtain ⟨p1, p2, p3, p4⟩ := prods a b c d A B ha hb hc hd
  rw [← hM] at p1 p2 p3 p4
  exact spec_mul_eq a b c d M hM1 p1 p2 p3 p4

theorem part_out (a b c d A B M : Int) (hM : M = A * B) (hM0 : 0 ≤ M) (ha : -A ≤ a ∧ a ≤ A) (hb : -A ≤ b ∧ b ≤ A) (hc : -B ≤ c ∧ c ≤ B) (hd : -B ≤ d ∧ d ≤ B) :
    -(M / 1000000 + 1) ≤ mulLo a b c d ∧ mulLo a b c d ≤ M / 1000000 + 1 ∧ -(M / 1000000 + 1) ≤ mulHi a b c d ∧ mulHi a b c d ≤ M / 1000000 + 1 := by
  obtain ⟨p1, p2, p3, p4⟩ := prods a b c d A B ha hb hc hd
  rw [← hM] at p1 p2 p3 p4
  exact mul_out a b c d M hM0 p1 p2 p3 p4

def tvX (a b c d t : Int) : Int × Int := (mulLo a b (sLo (nsin (t + 324000))) (sHi (nsin (t + 324000))) + mulLo c d (sLo (nsin t)) (sHi (nsin t)), mulHi a b (sLo (nsin (t + 324000))) (sHi (nsin (t + 324000))) + mulHi c d (sLo (nsin t)) (sHi (nsin t)))

def tvY (a b c d t : Int) : Int × Int := (mulLo c d (sLo (nsin (t + 324000))) (sHi (nsin (t + 324000))) - mulHi a b (sLo (nsin t)) (sHi (nsin t)), mulHi c d (sLo (nsin (t + 324000))) (sHi (nsin (t + 324000))) - mulLo a b (sLo (nsin t)) (sHi (nsin t)))

def trnV (a b c d e f t : Int) : Int × Int × Int × Int × Int × Int × Int :=
  if isVec a b c d e f then (if isV t then bnd (tvX a b c d t).1 (tvX a b c d t).2 (tvY a b c d t).1 (tvY a b c d t).2 e f else (0, 0, 0, 0, 0, 0, 2)) else (0, 0, 0, 0, 0, 0, 1)

theorem ps_spec_mul (a b x : Int) (h : -10000000 ≤ a ∧ b ≤ 10000000 ∧ a ≤ b) : spec_l02Mul.f a b (sLo (nsin x)) (sHi (nsin x)) = some (mulLo a b (sLo (nsin x)) (sHi (nsin x)), mulHi a b (sLo (nsin x)) (sHi (nsin x))) :=
  part_mul_spec _ _ _ _ 10000000 2600000 26000000000000 (by omega) (by omega) (by omega) (by omega) (by omega) (s_range x).1 (s_range x).2

theorem ps_impl_mul (a b x : Int) (h : -10000000 ≤ a ∧ b ≤ 10000000 ∧ a ≤ b) : impl_Interval_times.f a b (sLo (nsin x)) (sHi (nsin x)) = some (mulLo a b (sLo (nsin x)) (sHi (nsin x)), mulHi a b (sLo (nsin x)) (sHi (nsin x))) :=
  part_mul _ _ _ _ 10000000 2600000 26000000000000 (by omega) (by omega) (by omega) (by omega) (by omega) (s_range x).1 (s_range x).2

theorem ps_out (a b x : Int) (h : -10000000 ≤ a ∧ b ≤ 10000000 ∧ a ≤ b) : -26000001 ≤ mulLo a b (sLo (nsin x)) (sHi (nsin x)) ∧ mulLo a b (sLo (nsin x)) (sHi (nsin x)) ≤ 26000001 ∧ -26000001 ≤ mulHi a b (sLo (nsin x)) (sHi (nsin x)) ∧ mulHi a b (sLo (nsin x)) (sHi (nsin x)) ≤ 26000001 :=
  part_out _ _ _ _ 10000000 2600000 26000000000000 (by omega) (by omega) (by omega) (by omega) (s_range x).1 (s_range x).2

theorem spec_TurnVector_eq (k : Nat) (a b c d e f t : Int) : spec_TurnVector.f (k + 1) a b c d e f t = some (trnV a b c d e f t) := by
  unfold spec_TurnVector.f trnV tvX tvY
  rw [spec_isVec_eq, spec_is_eq, bind_dec, bind_dec]
  by_cases h : isVec a b c d e f
  · rw [if_pos h, if_pos h]; obtain ⟨h1, h2, h3⟩ := h
    by_cases v : isV t
    · have o1 := ps_out a b t h1; have o2 := ps_out a b (t + 324000) h1; have o3 := ps_out c d t h2; have o4 := ps_out c d (t + 324000) h2
      rw [if_pos v, if_pos v, spec_sin_eq k t, spec_cos_eq k t (by omega) (by omega)]; simp only [Option.bind_some]
      rw [ps_spec_mul _ _ _ h1, ps_spec_mul _ _ _ h1, ps_spec_mul _ _ _ h2, ps_spec_mul _ _ _ h2]; simp only [Option.bind_some]
      rw [spec_add_eq _ _ _ _ (by omega) (by omega) (by omega) (by omega), spec_sub_eq _ _ _ _ (by omega) (by omega) (by omega) (by omega)]; simp only [Option.bind_some]
      rw [spec_l06Result_eq]; rfl
    · rw [if_neg v, if_neg v]
  · rw [if_neg h, if_neg h]

theorem impl_TurnVector_eq (k : Nat) (a b c d e f t : Int) : impl_TurnVector.f (k + 1) a b c d e f t = some (trnV a b c d e f t) := by
  unfold impl_TurnVector.f trnV tvX tvY
  rw [impl_isVec_eq, impl_isValue_eq, bind_dec, bind_dec]
  by_cases h : isVec a b c d e f
  · rw [if_pos h, if_pos h]; obtain ⟨h1, h2, h3⟩ := h
    by_cases v : isV t
    · have o1 := ps_out a b t h1; have o2 := ps_out a b (t + 324000) h1; have o3 := ps_out c d t h2; have o4 := ps_out c d (t + 324000) h2
      rw [if_pos v, if_pos v, impl_sine_eq k t (by omega) (by omega), impl_cosine_eq k t (by omega) (by omega)]; simp only [Option.bind_some]
      rw [ps_impl_mul _ _ _ h1, ps_impl_mul _ _ _ h1, ps_impl_mul _ _ _ h2, ps_impl_mul _ _ _ h2]; simp only [Option.bind_some]
      rw [impl_plus_eq _ _ _ _ (by omega) (by omega) (by omega) (by omega), impl_minus_eq _ _ _ _ (by omega) (by omega) (by omega) (by omega)]; simp only [Option.bind_some]
      rw [impl_bounded_eq]; rfl
    · rw [if_neg v, if_neg v]
  · rw [if_neg h, if_neg h]

theorem FnExactTurnVector (a0_0 : Int) (a0_1 : Int) (a0_2 : Int) (a0_3 : Int) (a0_4 : Int) (a0_5 : Int) (a1 : Int) (h0_0 : (Lit.int .i64 a0_0).wf = true) (h0_1 : (Lit.int .i64 a0_1).wf = true) (h0_2 : (Lit.int .i64 a0_2).wf = true) (h0_3 : (Lit.int .i64 a0_3).wf = true) (h0_4 : (Lit.int .i64 a0_4).wf = true) (h0_5 : (Lit.int .i64 a0_5).wf = true) (h1 : (Lit.int .i64 a1).wf = true) : ∃ k, laws_FnExactTurnVector.f k a0_0 a0_1 a0_2 a0_3 a0_4 a0_5 a1 = some true := by
  refine ⟨1, ?_⟩
  unfold laws_FnExactTurnVector.f
  simp only [toVector_eq, Option.bind_some]
  rw [spec_TurnVector_eq 0, impl_TurnVector_eq 0]; simp only [Option.bind_some, eqVector_refl, if_true]

end Go.Proofs.Ytnbgaffjmhhhjaa.Pure
