/- Proved: for all arguments the law FnExactCrossProduct returns true. Conditions: none. -/
import Derived.Test.YtllapjemdegnjaaQFnExactCrossProductx6
namespace Go.Proofs.Ytllapjemdegnjaa.Pure
open Go.RowKit Go.Proofs.Ytllapjemdegnjaa.PFnExactCrossProduct Go.Proofs.YtllapjemdegnjaaW.PrintWords Go.Proofs.YtllapjemdegnjaaW.PrintLast Go.Proofs.YtllapjemdegnjaaW.PrintMore
set_option linter.unusedVariables false
set_option linter.unusedSimpArgs false

theorem wid (n : Int) (h0 : -9223372036854775808 ≤ n) (h1 : n ≤ 9223372036854775807) : wrap64 n = n := by unfold wrap64; omega

/-- Go's truncated quotient and remainder by a positive number, in Lean's floor form. -/
theorem tdiv_pos_spec (a b : Int) (hb : 0 < b) : a.tmod b = (if 0 ≤ a ∨ a % b = 0 then a % b else a % b - b) ∧ a.tdiv b = (if 0 ≤ a ∨ a % b = 0 then a / b else a / b + 1) := by
  have h1 : a.tdiv b = (if 0 ≤ a ∨ a % b = 0 then a / b else a / b + 1) := by
    rw [Int.tdiv_eq_ediv]
    have e : b.sign = 1 := Int.sign_eq_one_of_pos hb
    rw [e]
    have : (b ∣ a) ↔ a % b = 0 := Int.dvd_iff_emod_eq_zero
    by_cases h : 0 ≤ a ∨ a % b = 0
    · rw [if_pos h, if_pos (by rw [this]; exact h)]; omega
    · rw [if_neg h, if_neg (by rw [this]; exact h)]
  refine ⟨?_, h1⟩
  have h2 := Int.mul_tdiv_add_tmod a b
  have h3 := Int.mul_ediv_add_emod a b
  rw [h1] at h2
  by_cases h : 0 ≤ a ∨ a % b = 0
  · rw [if_pos h] at h2 ⊢; omega
  · rw [if_neg h] at h2 ⊢; rw [Int.mul_add] at h2; omega

theorem ediv_range (a b : Int) (hb : 0 < b) (A : Int) (h0 : -A ≤ a) (h1 : a ≤ A) (hA : 0 ≤ A) : -A ≤ a / b ∧ a / b ≤ A := by
  constructor
  · rw [Int.le_ediv_iff_mul_le hb]
    have : -A * b ≤ -A * 1 := by
      have : A * 1 ≤ A * b := Int.mul_le_mul_of_nonneg_left (by omega) hA
      rw [Int.neg_mul, Int.neg_mul]; omega
    omega
  · have : a / b ≤ A / b := Int.ediv_le_ediv hb h1
    have h2 : A / b ≤ A := Int.ediv_le_self _ hA
    omega

theorem impl_in_eq (n lo hi : Int) : impl_in.f n lo hi = some (decide (lo ≤ n ∧ n ≤ hi)) := by
  unfold impl_in.f; by_cases h : n ≥ lo
  · rw [if_pos h]; simp [show lo ≤ n from h]
  · rw [if_neg h]; simp [show ¬ lo ≤ n from h]

theorem spec_in_eq (n lo hi : Int) : spec_l01In.f n lo hi = some (decide (lo ≤ n ∧ n ≤ hi)) := by
  unfold spec_l01In.f; by_cases h : n ≥ lo
  · rw [if_pos h]; simp [show lo ≤ n from h]
  · rw [if_neg h]; simp [show ¬ lo ≤ n from h]

theorem impl_isValue_eq (n : Int) : impl_isValue.f n = some (decide (-1000000000000 ≤ n ∧ n ≤ 1000000000000)) := by
  unfold impl_isValue.f; rw [impl_in_eq]; rfl

theorem impl_floor_pos (a b : Int) (hb : 0 < b) (h0 : -9223372036854775807 ≤ a) (h1 : a ≤ 9223372036854775807) : impl_floor.f a b = some (a / b) := by
  have hr := ediv_range a b hb 9223372036854775807 h0 h1 (by omega)
  obtain ⟨e1, e2⟩ := tdiv_pos_spec a b hb
  have hm := Int.emod_nonneg a (show b ≠ 0 by omega)
  have hm2 := Int.emod_lt_of_pos a hb
  unfold impl_floor.f
  rw [if_neg (by omega), e1, e2]
  by_cases h : 0 ≤ a ∨ a % b = 0
  · rw [if_pos h, if_pos h, wid _ (by omega) (by omega)]
    by_cases hz : a % b = 0
    · rw [if_pos hz]
    · rw [if_neg hz, if_neg]
      have : ¬ (a % b < 0) := by omega
      have : ¬ (b < 0) := by omega
      simp [*]
  · rw [if_neg h, if_neg h, if_neg (by omega), if_pos]
    · have : a / b + 1 ≤ 0 := by
        have := Int.ediv_neg_of_neg_of_pos (show a < 0 by omega) hb
        omega
      rw [wid (a / b + 1) (by omega) (by omega), wid _ (by omega) (by omega)]; congr 1; omega
    · have : (a % b - b < 0) := by omega
      have : ¬ (b < 0) := by omega
      simp [*]

theorem impl_floor_neg (a b : Int) (hb : b < 0) (h0 : -9223372036854775807 ≤ a) (h1 : a ≤ 9223372036854775807) : impl_floor.f a b = some ((-a) / (-b)) := by
  have hr := ediv_range (-a) (-b) (by omega) 9223372036854775807 (by omega) (by omega) (by omega)
  obtain ⟨e1, e2⟩ := tdiv_pos_spec (-a) (-b) (by omega)
  have k1 : a.tmod b = - (-a).tmod (-b) := by rw [Int.neg_tmod, Int.tmod_neg]; omega
  have k2 : a.tdiv b = (-a).tdiv (-b) := by rw [Int.neg_tdiv, Int.tdiv_neg]; omega
  have hm := Int.emod_nonneg (-a) (show -b ≠ 0 by omega)
  have hm2 := Int.emod_lt_of_pos (-a) (show 0 < -b by omega)
  unfold impl_floor.f
  rw [if_neg (by omega), k1, k2, e1, e2]
  by_cases h : 0 ≤ -a ∨ -a % -b = 0
  · rw [if_pos h, if_pos h, wid _ (by omega) (by omega)]
    by_cases hz : -a % -b = 0
    · rw [if_pos (by omega)]
    · rw [if_neg (by omega), if_neg]
      rw [decide_eq_true (show -(-a % -b) < 0 by omega), decide_eq_true hb]; decide
  · rw [if_neg h, if_neg h, if_neg (by omega), if_pos]
    · have : -a / -b + 1 ≤ 0 := by
        have := Int.ediv_neg_of_neg_of_pos (show -a < 0 by omega) (show 0 < -b by omega)
        omega
      rw [wid (-a / -b + 1) (by omega) (by omega), wid _ (by omega) (by omega)]; congr 1; omega
    · rw [decide_eq_false (show ¬ (-(-a % -b - -b) < 0) by omega), decide_eq_true hb]; decide

theorem spec_floor_pos (a b : Int) (hb : 0 < b) (h0 : -9223372036854775807 ≤ a) (h1 : a ≤ 9223372036854775807) : spec_l01Floor.f a b = some (a / b) := by
  have hr := ediv_range a b hb 9223372036854775807 h0 h1 (by omega)
  obtain ⟨e1, e2⟩ := tdiv_pos_spec a b hb
  have hm := Int.emod_nonneg a (show b ≠ 0 by omega)
  have hm2 := Int.emod_lt_of_pos a hb
  unfold spec_l01Floor.f
  rw [if_neg (by omega), if_neg (by omega), e1, e2]
  by_cases h : 0 ≤ a ∨ a % b = 0
  · rw [if_pos h, if_pos h, if_neg (by omega), wid _ (by omega) (by omega)]
  · rw [if_neg h, if_neg h, if_pos (by omega)]
    have : a / b + 1 ≤ 0 := by
      have := Int.ediv_neg_of_neg_of_pos (show a < 0 by omega) hb
      omega
    rw [wid (a / b + 1) (by omega) (by omega), wid _ (by omega) (by omega)]; congr 1; omega

theorem spec_floor_neg (a b : Int) (hb : b < 0) (hb1 : -9223372036854775807 ≤ b) (h0 : -9223372036854775807 ≤ a) (h1 : a ≤ 9223372036854775807) : spec_l01Floor.f a b = some ((-a) / (-b)) := by
  have h := spec_floor_pos (-a) (-b) (by omega) (by omega) (by omega)
  unfold spec_l01Floor.f at h ⊢
  rw [if_neg (by omega), if_neg (by omega)] at h
  rw [if_pos hb, wid (-a) (by omega) (by omega), wid (-b) (by omega) (by omega), if_neg (by omega)]; exact h

/-- The floor of a fraction, whatever the sign of its denominator. -/
def flr (a b : Int) : Int := if 0 < b then a / b else (-a) / (-b)

theorem impl_floor_eq (a b : Int) (hb : b ≠ 0) (h0 : -9223372036854775807 ≤ a) (h1 : a ≤ 9223372036854775807) : impl_floor.f a b = some (flr a b) := by
  unfold flr; by_cases h : 0 < b
  · rw [if_pos h, impl_floor_pos a b h h0 h1]
  · rw [if_neg h, impl_floor_neg a b (by omega) h0 h1]

theorem spec_floor_eq (a b : Int) (hb : b ≠ 0) (hb1 : -9223372036854775807 ≤ b) (h0 : -9223372036854775807 ≤ a) (h1 : a ≤ 9223372036854775807) : spec_l01Floor.f a b = some (flr a b) := by
  unfold flr; by_cases h : 0 < b
  · rw [if_pos h, spec_floor_pos a b h h0 h1]
  · rw [if_neg h, spec_floor_neg a b (by omega) hb1 h0 h1]

theorem flr_range (a b : Int) (hb : b ≠ 0) (A : Int) (h0 : -A ≤ a) (h1 : a ≤ A) (hA : 0 ≤ A) : -A ≤ flr a b ∧ flr a b ≤ A := by
  unfold flr; by_cases h : 0 < b
  · rw [if_pos h]; exact ediv_range a b h A h0 h1 hA
  · rw [if_neg h]; exact ediv_range (-a) (-b) (by omega) A (by omega) (by omega) hA

theorem impl_ceil_eq (a b : Int) (hb : b ≠ 0) (h0 : -9223372036854775807 ≤ a) (h1 : a ≤ 9223372036854775807) : impl_ceil.f a b = some (-(flr (-a) b)) := by
  have := flr_range (-a) b hb 9223372036854775807 (by omega) (by omega) (by omega)
  unfold impl_ceil.f; rw [wid (-a) (by omega) (by omega), impl_floor_eq (-a) b hb (by omega) (by omega)]; simp only [Option.bind_some]; rw [wid _ (by omega) (by omega)]

theorem spec_ceil_eq (a b : Int) (hb : b ≠ 0) (hb1 : -9223372036854775807 ≤ b) (h0 : -9223372036854775807 ≤ a) (h1 : a ≤ 9223372036854775807) : spec_l01Ceil.f a b = some (-(flr (-a) b)) := by
  have := flr_range (-a) b hb 9223372036854775807 (by omega) (by omega) (by omega)
  unfold spec_l01Ceil.f; rw [wid (-a) (by omega) (by omega), spec_floor_eq (-a) b hb hb1 (by omega) (by omega)]; simp only [Option.bind_some]; rw [wid _ (by omega) (by omega)]

theorem mul_range (x y X Y : Int) (h0 : -X ≤ x) (h1 : x ≤ X) (hy : 0 ≤ y) (hy1 : y ≤ Y) : -(X * Y) ≤ x * y ∧ x * y ≤ X * Y := by
  have hX : 0 ≤ X := by omega
  have k1 : x * y ≤ X * y := Int.mul_le_mul_of_nonneg_right h1 hy
  have k2 : X * y ≤ X * Y := Int.mul_le_mul_of_nonneg_left hy1 hX
  have k3 : (-X) * y ≤ x * y := Int.mul_le_mul_of_nonneg_right h0 hy
  rw [Int.neg_mul] at k3
  omega

theorem bind_dec {α : Type} (p : Prop) [Decidable p] (A : Option α) (B : α) : ((some (decide p)).bind fun t => if t = true then A else some B) = if p then A else some B := by
  by_cases h : p <;> simp [h]

theorem dec_and (p q : Prop) [Decidable p] [Decidable q] : (if decide p = true then some (decide q) else some false) = some (decide (p ∧ q)) := by
  by_cases h : p <;> simp [h]

theorem some_dec {p q : Prop} [Decidable p] [Decidable q] (h : p ↔ q) : some (decide p) = some (decide q) := by rw [decide_eq_decide.2 h]

theorem impl_isInterval_eq (a b : Int) : impl_IsInterval.f a b = some (decide (-1000000000000 ≤ a ∧ b ≤ 1000000000000 ∧ a ≤ b)) := by
  unfold impl_IsInterval.f
  rw [impl_isValue_eq, impl_isValue_eq]
  simp only [Option.bind_some, dec_and]
  apply some_dec; omega

theorem impl_within_eq (a b m : Int) (h0 : 0 ≤ m) (h1 : m ≤ 1000000000000) : impl_Interval_within.f a b m = some (decide (-m ≤ a ∧ a ≤ m ∧ -m ≤ b ∧ b ≤ m)) := by
  unfold impl_Interval_within.f
  rw [wid (-m) (by omega) (by omega), impl_in_eq, impl_in_eq]
  simp only [Option.bind_some, dec_and]
  apply some_dec; omega

theorem eqInterval_refl (a b : Int) : laws_eqInterval.f a b a b = some true := by
  unfold laws_eqInterval.f; rw [if_pos rfl, if_pos rfl]

theorem chain_not {α : Type} (p q : Prop) [Decidable p] [Decidable q] (J : Bool → Option α) : ((some (decide p)).bind fun t => if t = true then ((some (decide q)).bind fun s => J (!s)) else J true) = J (!decide (p ∧ q)) := by
  by_cases h : p <;> by_cases h2 : q <;> simp [h, h2]

theorem ite_notdec {α : Type} (p : Prop) [Decidable p] (A B : α) : (if (!decide p) = true then A else B) = if p then B else A := by
  by_cases h : p <;> simp [h]

theorem mul_abs (x y X Y : Int) (h0 : -X ≤ x) (h1 : x ≤ X) (h2 : -Y ≤ y) (h3 : y ≤ Y) : -(X * Y) ≤ x * y ∧ x * y ≤ X * Y := by
  by_cases h : 0 ≤ y
  · exact mul_range x y X Y h0 h1 h h3
  · have := mul_range x (-y) X Y h0 h1 (by omega) (by omega)
    rw [Int.mul_neg] at this; omega

def mulLo (a b c d : Int) : Int := (mn (mn (mn (a * c) (a * d)) (b * c)) (b * d)) / 1000000

def mulHi (a b c d : Int) : Int := -((-(mx (mx (mx (a * c) (a * d)) (b * c)) (b * d))) / 1000000)

theorem flr_pos (a b : Int) (h : 0 < b) : flr a b = a / b := by unfold flr; rw [if_pos h]

/-- The products of two intervals whose bounds are at most A and B. -/
theorem prods (a b c d A B : Int) (ha : -A ≤ a ∧ a ≤ A) (hb : -A ≤ b ∧ b ≤ A) (hc : -B ≤ c ∧ c ≤ B) (hd : -B ≤ d ∧ d ≤ B) :
    (-(A * B) ≤ a * c ∧ a * c ≤ A * B) ∧ (-(A * B) ≤ a * d ∧ a * d ≤ A * B) ∧ (-(A * B) ≤ b * c ∧ b * c ≤ A * B) ∧ (-(A * B) ≤ b * d ∧ b * d ≤ A * B) :=
  ⟨mul_abs a c A B ha.1 ha.2 hc.1 hc.2, mul_abs a d A B ha.1 ha.2 hd.1 hd.2, mul_abs b c A B hb.1 hb.2 hc.1 hc.2, mul_abs b d A B hb.1 hb.2 hd.1 hd.2⟩

theorem mul_bounds (a b c d M : Int) (h1 : -M ≤ a * c ∧ a * c ≤ M) (h2 : -M ≤ a * d ∧ a * d ≤ M) (h3 : -M ≤ b * c ∧ b * c ≤ M) (h4 : -M ≤ b * d ∧ b * d ≤ M) :
    (-M ≤ mn (mn (mn (a * c) (a * d)) (b * c)) (b * d) ∧ mn (mn (mn (a * c) (a * d)) (b * c)) (b * d) ≤ M) ∧ (-M ≤ mx (mx (mx (a * c) (a * d)) (b * c)) (b * d) ∧ mx (mx (mx (a * c) (a * d)) (b * c)) (b * d) ≤ M) := by
  unfold mn mx
  generalize a * c = p at *; generalize a * d = q at *; generalize b * c = r at *; generalize b * d = s at *
  constructor
  · repeat' split
    all_goals omega
  · repeat' split
    all_goals omega

theorem impl_times_eq (a b c d M : Int) (hM : M ≤ 4000000000000000000) (h1 : -M ≤ a * c ∧ a * c ≤ M) (h2 : -M ≤ a * d ∧ a * d ≤ M) (h3 : -M ≤ b * c ∧ b * c ≤ M) (h4 : -M ≤ b * d ∧ b * d ≤ M) :
    impl_Interval_times.f a b c d = some (mulLo a b c d, mulHi a b c d) := by
  obtain ⟨k1, k2⟩ := mul_bounds a b c d M h1 h2 h3 h4
  unfold impl_Interval_times.f mulLo mulHi
  rw [wid (a * c) (by omega) (by omega), wid (a * d) (by omega) (by omega), wid (b * c) (by omega) (by omega), wid (b * d) (by omega) (by omega),
    impl_floor_pos _ _ (by omega) (by omega) (by omega), impl_ceil_eq _ _ (by omega) (by omega) (by omega), flr_pos _ _ (by omega)]; rfl

theorem spec_mul_eq (a b c d M : Int) (hM : M ≤ 4000000000000000000) (h1 : -M ≤ a * c ∧ a * c ≤ M) (h2 : -M ≤ a * d ∧ a * d ≤ M) (h3 : -M ≤ b * c ∧ b * c ≤ M) (h4 : -M ≤ b * d ∧ b * d ≤ M) :
    spec_l02Mul.f a b c d = some (mulLo a b c d, mulHi a b c d) := by
  obtain ⟨k1, k2⟩ := mul_bounds a b c d M h1 h2 h3 h4
  unfold spec_l02Mul.f mulLo mulHi
  rw [wid (a * c) (by omega) (by omega), wid (a * d) (by omega) (by omega), wid (b * c) (by omega) (by omega), wid (b * d) (by omega) (by omega),
    spec_floor_pos _ _ (by omega) (by omega) (by omega), spec_ceil_eq _ _ (by omega) (by omega) (by omega) (by omega), flr_pos _ _ (by omega)]; rfl

/-- The product's bounds, in millionths. -/
theorem mul_out (a b c d M : Int) (hM : 0 ≤ M) (h1 : -M ≤ a * c ∧ a * c ≤ M) (h2 : -M ≤ a * d ∧ a * d ≤ M) (h3 : -M ≤ b * c ∧ b * c ≤ M) (h4 : -M ≤ b * d ∧ b * d ≤ M) :
    -(M / 1000000 + 1) ≤ mulLo a b c d ∧ mulLo a b c d ≤ M / 1000000 + 1 ∧ -(M / 1000000 + 1) ≤ mulHi a b c d ∧ mulHi a b c d ≤ M / 1000000 + 1 := by
  obtain ⟨k1, k2⟩ := mul_bounds a b c d M h1 h2 h3 h4
  unfold mulLo mulHi; omega

theorem impl_isPart_eq (a b : Int) : impl_isPart.f a b = some (decide (-10000000 ≤ a ∧ b ≤ 10000000 ∧ a ≤ b)) := by
  unfold impl_isPart.f
  rw [impl_isInterval_eq, impl_within_eq _ _ _ (by omega) (by omega)]
  simp only [Option.bind_some, dec_and]
  apply some_dec; omega

theorem spec_part_eq (a b : Int) : spec_l06Part.f a b = some (decide (-10000000 ≤ a ∧ b ≤ 10000000 ∧ a ≤ b)) := by
  unfold spec_l06Part.f
  rw [spec_in_eq, spec_in_eq]
  simp only [Option.bind_some, dec_and]
  apply some_dec; omega

abbrev isVec (a b c d e f : Int) : Prop := (-10000000 ≤ a ∧ b ≤ 10000000 ∧ a ≤ b) ∧ (-10000000 ≤ c ∧ d ≤ 10000000 ∧ c ≤ d) ∧ (-10000000 ≤ e ∧ f ≤ 10000000 ∧ e ≤ f)

theorem spec_isVec_eq (a b c d e f : Int) : spec_IsVector.f a b c d e f = some (decide (isVec a b c d e f)) := by
  unfold spec_IsVector.f; rw [spec_part_eq, spec_part_eq, spec_part_eq]
  simp only [Option.bind_some, dec_and]

theorem impl_isVec_eq (a b c d e f : Int) : impl_IsVector.f a b c d e f = some (decide (isVec a b c d e f)) := by
  unfold impl_IsVector.f; rw [impl_isPart_eq, impl_isPart_eq, impl_isPart_eq]
  simp only [Option.bind_some, dec_and]

theorem toVector_eq (a b c d e f : Int) : laws_toVector.f a b c d e f = some (a, b, c, d, e, f) := rfl

theorem eqVector_refl (a b c d e f : Int) : laws_eqVector.f a b c d e f a b c d e f = some true := by
  unfold laws_eqVector.f; rw [eqInterval_refl, eqInterval_refl, eqInterval_refl]; rfl

def bnd (a b c d e f : Int) : Int × Int × Int × Int × Int × Int × Int := if isVec a b c d e f then (a, b, c, d, e, f, 0) else (0, 0, 0, 0, 0, 0, 3)

theorem impl_bounded_eq (a b c d e f : Int) : impl_bounded.f a b c d e f = some (bnd a b c d e f) := by
  unfold impl_bounded.f bnd; rw [impl_isVec_eq, bind_dec, apply_ite some]

theorem spec_l06Result_eq (a b c d e f : Int) : spec_l06Result.f a b c d e f = some (bnd a b c d e f) := by
  unfold spec_l06Result.f bnd; rw [spec_isVec_eq, bind_dec, apply_ite some]

theorem impl_minus_eq (a b c d : Int) (h1 : -4000000000000000000 ≤ a ∧ a ≤ 4000000000000000000) (h2 : -4000000000000000000 ≤ b ∧ b ≤ 4000000000000000000) (h3 : -4000000000000000000 ≤ c ∧ c ≤ 4000000000000000000) (h4 : -4000000000000000000 ≤ d ∧ d ≤ 4000000000000000000) : impl_Interval_minus.f a b c d = some (a - d, b - c) := by
  unfold impl_Interval_minus.f; rw [wid _ (by omega) (by omega), wid _ (by omega) (by omega)]

theorem spec_sub_eq (a b c d : Int) (h1 : -4000000000000000000 ≤ a ∧ a ≤ 4000000000000000000) (h2 : -4000000000000000000 ≤ b ∧ b ≤ 4000000000000000000) (h3 : -4000000000000000000 ≤ c ∧ c ≤ 4000000000000000000) (h4 : -4000000000000000000 ≤ d ∧ d ≤ 4000000000000000000) : spec_l02Sub.f a b c d = some (a - d, b - c) := by
  unfold spec_l02Sub.f; rw [wid _ (by omega) (by omega), wid _ (by omega) (by omega)]

/-- The products of two parts: each in bounds. -/
theorem part_mul (a b c d A B M : Int) (hM : M = A * B) (hM0 : 0 ≤ M) (hM1 : M ≤ 4000000000000000000) (ha : -A ≤ a ∧ a ≤ A) (hb : -A ≤ b ∧ b ≤ A) (hc : -B ≤ c ∧ c ≤ B) (hd : -B ≤ d ∧ d ≤ B) :
    impl_Interval_times.f a b c d = some (mulLo a b c d, mulHi a b c d) := by
  obtain ⟨p1, p2, p3, p4⟩ := prods a b c d A B ha hb hc hd
  rw [← hM] at p1 p2 p3 p4
  exact impl_times_eq a b c d M hM1 p1 p2 p3 p4

theorem part_mul_spec (a b c d A B M : Int) (hM : M = A * B) (hM0 : 0 ≤ M) (hM1 : M ≤ 4000000000000000000) (ha : -A ≤ a ∧ a ≤ A) (hb : -A ≤ b ∧ b ≤ A) (hc : -B ≤ c ∧ c ≤ B) (hd : -B ≤ d ∧ d ≤ B) :
    spec_l02Mul.f a b c d = some (mulLo a b c d, mulHi a b c d) := by
  obtain ⟨p1, p2, p3, p4⟩ := prods a b c d A B ha hb hc hd
  rw [← hM] at p1 p2 p3 p4
  exact spec_mul_eq a b c d M hM1 p1 p2 p3 p4

theorem part_out (a b c d A B M : Int) (hM : M = A * B) (hM0 : 0 ≤ M) (ha : -A ≤ a ∧ a ≤ A) (hb : -A ≤ b ∧ b ≤ A) (hc : -B ≤ c ∧ c ≤ B) (hd : -B ≤ d ∧ d ≤ B) :
    -(M / 1000000 + 1) ≤ mulLo a b c d ∧ mulLo a b c d ≤ M / 1000000 + 1 ∧ -(M / 1000000 + 1) ≤ mulHi a b c d ∧ mulHi a b c d ≤ M / 1000000 + 1 := by
  obtain ⟨p1, p2, p3, p4⟩ := prods a b c d A B ha hb hc hd
  rw [← hM] at p1 p2 p3 p4
  exact mul_out a b c d M hM0 p1 p2 p3 p4

theorem vec_impl_mul (a b c d : Int) (h : -10000000 ≤ a ∧ b ≤ 10000000 ∧ a ≤ b) (h' : -10000000 ≤ c ∧ d ≤ 10000000 ∧ c ≤ d) : impl_Interval_times.f a b c d = some (mulLo a b c d, mulHi a b c d) :=
  part_mul a b c d 10000000 10000000 100000000000000 (by omega) (by omega) (by omega) (by omega) (by omega) (by omega) (by omega)

theorem vec_spec_mul (a b c d : Int) (h : -10000000 ≤ a ∧ b ≤ 10000000 ∧ a ≤ b) (h' : -10000000 ≤ c ∧ d ≤ 10000000 ∧ c ≤ d) : spec_l02Mul.f a b c d = some (mulLo a b c d, mulHi a b c d) :=
  part_mul_spec a b c d 10000000 10000000 100000000000000 (by omega) (by omega) (by omega) (by omega) (by omega) (by omega) (by omega)

theorem vec_out (a b c d : Int) (h : -10000000 ≤ a ∧ b ≤ 10000000 ∧ a ≤ b) (h' : -10000000 ≤ c ∧ d ≤ 10000000 ∧ c ≤ d) : -100000001 ≤ mulLo a b c d ∧ mulLo a b c d ≤ 100000001 ∧ -100000001 ≤ mulHi a b c d ∧ mulHi a b c d ≤ 100000001 :=
  part_out a b c d 10000000 10000000 100000000000000 (by omega) (by omega) (by omega) (by omega) (by omega) (by omega)

def crsV (a b c d e f a' b' c' d' e' f' : Int) : Int × Int × Int × Int × Int × Int × Int :=
  if isVec a b c d e f ∧ isVec a' b' c' d' e' f' then bnd (mulLo c d e' f' - mulHi e f c' d') (mulHi c d e' f' - mulLo e f c' d') (mulLo e f a' b' - mulHi a b e' f') (mulHi e f a' b' - mulLo a b e' f') (mulLo a b c' d' - mulHi c d a' b') (mulHi a b c' d' - mulLo c d a' b') else (0, 0, 0, 0, 0, 0, 1)

theorem spec_CrossProduct_eq (k : Nat) (a b c d e f a' b' c' d' e' f' : Int) : spec_CrossProduct.f (k + 1) a b c d e f a' b' c' d' e' f' = some (crsV a b c d e f a' b' c' d' e' f') := by
  unfold spec_CrossProduct.f crsV
  rw [spec_isVec_eq, spec_isVec_eq, chain_not _ _ (fun t => spec_CrossProduct.j0 (k + 1) t a b c d e f a' b' c' d' e' f')]
  simp only [spec_CrossProduct.j0]; rw [ite_notdec]
  by_cases h : isVec a b c d e f ∧ isVec a' b' c' d' e' f'
  · rw [if_pos h, if_pos h]; obtain ⟨⟨h1, h2, h3⟩, h4, h5, h6⟩ := h
    have o1 := vec_out _ _ _ _ h2 h6; have o2 := vec_out _ _ _ _ h3 h5; have o3 := vec_out _ _ _ _ h3 h4; have o4 := vec_out _ _ _ _ h1 h6; have o5 := vec_out _ _ _ _ h1 h5; have o6 := vec_out _ _ _ _ h2 h4
    rw [vec_spec_mul _ _ _ _ h2 h6, vec_spec_mul _ _ _ _ h3 h5, vec_spec_mul _ _ _ _ h3 h4, vec_spec_mul _ _ _ _ h1 h6, vec_spec_mul _ _ _ _ h1 h5, vec_spec_mul _ _ _ _ h2 h4]; simp only [Option.bind_some]
    rw [spec_sub_eq _ _ _ _ (by omega) (by omega) (by omega) (by omega), spec_sub_eq _ _ _ _ (by omega) (by omega) (by omega) (by omega), spec_sub_eq _ _ _ _ (by omega) (by omega) (by omega) (by omega)]; simp only [Option.bind_some]
    rw [spec_l06Result_eq]; rfl
  · rw [if_neg h, if_neg h]

theorem impl_CrossProduct_eq (k : Nat) (a b c d e f a' b' c' d' e' f' : Int) : impl_CrossProduct.f (k + 1) a b c d e f a' b' c' d' e' f' = some (crsV a b c d e f a' b' c' d' e' f') := by
  unfold impl_CrossProduct.f crsV
  rw [impl_isVec_eq, impl_isVec_eq, chain_not _ _ (fun t => impl_CrossProduct.j0 (k + 1) t a b c d e f a' b' c' d' e' f')]
  simp only [impl_CrossProduct.j0]; rw [ite_notdec]
  by_cases h : isVec a b c d e f ∧ isVec a' b' c' d' e' f'
  · rw [if_pos h, if_pos h]; obtain ⟨⟨h1, h2, h3⟩, h4, h5, h6⟩ := h
    have o1 := vec_out _ _ _ _ h2 h6; have o2 := vec_out _ _ _ _ h3 h5; have o3 := vec_out _ _ _ _ h3 h4; have o4 := vec_out _ _ _ _ h1 h6; have o5 := vec_out _ _ _ _ h1 h5; have o6 := vec_out _ _ _ _ h2 h4
    rw [vec_impl_mul _ _ _ _ h2 h6, vec_impl_mul _ _ _ _ h3 h5, vec_impl_mul _ _ _ _ h3 h4, vec_impl_mul _ _ _ _ h1 h6, vec_impl_mul _ _ _ _ h1 h5, vec_impl_mul _ _ _ _ h2 h4]; simp only [Option.bind_some]
    rw [impl_minus_eq _ _ _ _ (by omega) (by omega) (by omega) (by omega), impl_minus_eq _ _ _ _ (by omega) (by omega) (by omega) (by omega), impl_minus_eq _ _ _ _ (by omega) (by omega) (by omega) (by omega)]; simp only [Option.bind_some]
    rw [impl_bounded_eq]; rfl
  · rw [if_neg h, if_neg h]

theorem FnExactCrossProduct (a0_0 : Int) (a0_1 : Int) (a0_2 : Int) (a0_3 : Int) (a0_4 : Int) (a0_5 : Int) (a1_0 : Int) (a1_1 : Int) (a1_2 : Int) (a1_3 : Int) (a1_4 : Int) (a1_5 : Int) (h0_0 : (Lit.int .i64 a0_0).wf = true) (h0_1 : (Lit.int .i64 a0_1).wf = true) (h0_2 : (Lit.int .i64 a0_2).wf = true) (h0_3 : (Lit.int .i64 a0_3).wf = true) (h0_4 : (Lit.int .i64 a0_4).wf = true) (h0_5 : (Lit.int .i64 a0_5).wf = true) (h1_0 : (Lit.int .i64 a1_0).wf = true) (h1_1 : (Lit.int .i64 a1_1).wf = true) (h1_2 : (Lit.int .i64 a1_2).wf = true) (h1_3 : (Lit.int .i64 a1_3).wf = true) (h1_4 : (Lit.int .i64 a1_4).wf = true) (h1_5 : (Lit.int .i64 a1_5).wf = true) : ∃ k, laws_FnExactCrossProduct.f k a0_0 a0_1 a0_2 a0_3 a0_4 a0_5 a1_0 a1_1 a1_2 a1_3 a1_4 a1_5 = some true := by
  refine ⟨1, ?_⟩
  unfold laws_FnExactCrossProduct.f
  simp only [toVector_eq, Option.bind_some]
  rw [spec_CrossProduct_eq 0, impl_CrossProduct_eq 0]; simp only [Option.bind_some, eqVector_refl, if_true]

end Go.Proofs.Ytllapjemdegnjaa.Pure
