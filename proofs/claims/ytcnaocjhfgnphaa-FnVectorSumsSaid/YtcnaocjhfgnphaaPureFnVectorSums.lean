/- Proved: for every code the law FnVectorSums returns true. Conditions: none. -/
import Derived.Test.YtcnaocjhfgnphaaQFnVectorSumsx9
namespace Go.Proofs.Ytcnaocjhfgnphaa.Pure
open Go.RowKit Go.Proofs.Ytcnaocjhfgnphaa.PFnVectorSums Go.Proofs.YtcnaocjhfgnphaaW.PrintWords Go.Proofs.YtcnaocjhfgnphaaW.PrintLast Go.Proofs.YtcnaocjhfgnphaaW.PrintMore
set_option linter.unusedVariables false
set_option linter.unusedSimpArgs false

theorem wid (n : Int) (h0 : -9223372036854775808 ≤ n) (h1 : n ≤ 9223372036854775807) : wrap64 n = n := by unfold wrap64; omega

theorem tmodP (a b : Int) (h : 0 ≤ a) : a.tmod b = a % b := Int.tmod_eq_emod_of_nonneg h

theorem tdivP (a b : Int) (h : 0 ≤ a) : a.tdiv b = a / b := Int.tdiv_eq_ediv_of_nonneg h

/-- Go's truncated quotient and remainder by a positive number, in Lean's floor form. -/
theorem tdiv_pos_spec (a b : Int) (hb : 0 < b) : a.tmod b = (if 0 ≤ a ∨ a % b = 0 then a % b else a % b - b) ∧ a.tdiv b = (if 0 ≤ a ∨ a % b = 0 then a / b else a / b + 1) := by
  have h1 : a.tdiv b = (if 0 ≤ a ∨ a % b = 0 then a / b else a / b + 1) := by
    rw [Int.tdiv_eq_ediv]
    have e : b.sign = 1 := Int.sign_eq_one_of_pos hb
    rw [e]
    have : (b ∣ a) ↔ a % b = 0 := Int.dvd_iff_emod_eq_zero
    by_cases h : 0 ≤ a ∨ a % b = 0
    · rw [if_pos h, if_pos (by rw [this]; exact h)]; omega
    · rw [if_neg h, if_neg (by rw [this]; exact h)]
  refine ⟨?_, h1⟩
  have h2 := Int.mul_tdiv_add_tmod a b
  have h3 := Int.mul_ediv_add_emod a b
  rw [h1] at h2
  by_cases h : 0 ≤ a ∨ a % b = 0
  · rw [if_pos h] at h2 ⊢; omega
  · rw [if_neg h] at h2 ⊢; rw [Int.mul_add] at h2; omega

theorem ediv_range (a b : Int) (hb : 0 < b) (A : Int) (h0 : -A ≤ a) (h1 : a ≤ A) (hA : 0 ≤ A) : -A ≤ a / b ∧ a / b ≤ A := by
  constructor
  · rw [Int.le_ediv_iff_mul_le hb]
    have : -A * b ≤ -A * 1 := by
      have : A * 1 ≤ A * b := Int.mul_le_mul_of_nonneg_left (by omega) hA
      rw [Int.neg_mul, Int.neg_mul]; omega
    omega
  · have : a / b ≤ A / b := Int.ediv_le_ediv hb h1
    have h2 : A / b ≤ A := Int.ediv_le_self _ hA
    omega

theorem impl_in_eq (n lo hi : Int) : impl_in.f n lo hi = some (decide (lo ≤ n ∧ n ≤ hi)) := by
  unfold impl_in.f; by_cases h : n ≥ lo
  · rw [if_pos h]; simp [show lo ≤ n from h]
  · rw [if_neg h]; simp [show ¬ lo ≤ n from h]

theorem spec_in_eq (n lo hi : Int) : spec_l01In.f n lo hi = some (decide (lo ≤ n ∧ n ≤ hi)) := by
  unfold spec_l01In.f; by_cases h : n ≥ lo
  · rw [if_pos h]; simp [show lo ≤ n from h]
  · rw [if_neg h]; simp [show ¬ lo ≤ n from h]

theorem impl_isValue_eq (n : Int) : impl_isValue.f n = some (decide (-1000000000000 ≤ n ∧ n ≤ 1000000000000)) := by
  unfold impl_isValue.f; rw [impl_in_eq]; rfl

theorem impl_floor_pos (a b : Int) (hb : 0 < b) (h0 : -9223372036854775807 ≤ a) (h1 : a ≤ 9223372036854775807) : impl_floor.f a b = some (a / b) := by
  have hr := ediv_range a b hb 9223372036854775807 h0 h1 (by omega)
  obtain ⟨e1, e2⟩ := tdiv_pos_spec a b hb
  have hm := Int.emod_nonneg a (show b ≠ 0 by omega)
  have hm2 := Int.emod_lt_of_pos a hb
  unfold impl_floor.f
  rw [if_neg (by omega), e1, e2]
  by_cases h : 0 ≤ a ∨ a % b = 0
  · rw [if_pos h, if_pos h, wid _ (by omega) (by omega)]
    by_cases hz : a % b = 0
    · rw [if_pos hz]
    · rw [if_neg hz, if_neg]
      have : ¬ (a % b < 0) := by omega
      have : ¬ (b < 0) := by omega
      simp [*]
  · rw [if_neg h, if_neg h, if_neg (by omega), if_pos]
    · have : a / b + 1 ≤ 0 := by
        have := Int.ediv_neg_of_neg_of_pos (show a < 0 by omega) hb
        omega
      rw [wid (a / b + 1) (by omega) (by omega), wid _ (by omega) (by omega)]; congr 1; omega
    · have : (a % b - b < 0) := by omega
      have : ¬ (b < 0) := by omega
      simp [*]

theorem impl_floor_neg (a b : Int) (hb : b < 0) (h0 : -9223372036854775807 ≤ a) (h1 : a ≤ 9223372036854775807) : impl_floor.f a b = some ((-a) / (-b)) := by
  have hr := ediv_range (-a) (-b) (by omega) 9223372036854775807 (by omega) (by omega) (by omega)
  obtain ⟨e1, e2⟩ := tdiv_pos_spec (-a) (-b) (by omega)
  have k1 : a.tmod b = - (-a).tmod (-b) := by rw [Int.neg_tmod, Int.tmod_neg]; omega
  have k2 : a.tdiv b = (-a).tdiv (-b) := by rw [Int.neg_tdiv, Int.tdiv_neg]; omega
  have hm := Int.emod_nonneg (-a) (show -b ≠ 0 by omega)
  have hm2 := Int.emod_lt_of_pos (-a) (show 0 < -b by omega)
  unfold impl_floor.f
  rw [if_neg (by omega), k1, k2, e1, e2]
  by_cases h : 0 ≤ -a ∨ -a % -b = 0
  · rw [if_pos h, if_pos h, wid _ (by omega) (by omega)]
    by_cases hz : -a % -b = 0
    · rw [if_pos (by omega)]
    · rw [if_neg (by omega), if_neg]
      rw [decide_eq_true (show -(-a % -b) < 0 by omega), decide_eq_true hb]; decide
  · rw [if_neg h, if_neg h, if_neg (by omega), if_pos]
    · have : -a / -b + 1 ≤ 0 := by
        have := Int.ediv_neg_of_neg_of_pos (show -a < 0 by omega) (show 0 < -b by omega)
        omega
      rw [wid (-a / -b + 1) (by omega) (by omega), wid _ (by omega) (by omega)]; congr 1; omega
    · rw [decide_eq_false (show ¬ (-(-a % -b - -b) < 0) by omega), decide_eq_true hb]; decide

theorem spec_mod_pos (a b : Int) (hb : 0 < b) (hb1 : b ≤ 4611686018427387904) : spec_l01Mod.f a b = some (a % b) := by
  unfold spec_l01Mod.f
  rw [if_neg (by omega)]
  obtain ⟨e1, e2⟩ := tdiv_pos_spec a b hb
  have m0 := Int.emod_nonneg a (show b ≠ 0 by omega)
  have m1 := Int.emod_lt_of_pos a hb
  rw [e1]
  by_cases h : 0 ≤ a ∨ a % b = 0
  · rw [if_pos h, wid _ (by omega) (by omega), tmodP _ _ (by omega), Int.add_emod_right, Int.emod_emod]
  · rw [if_neg h, wid _ (by omega) (by omega), tmodP _ _ (by omega)]
    have : a % b - b + b = a % b := by omega
    rw [this, Int.emod_emod]

theorem spec_floor_pos (a b : Int) (hb : 0 < b) (h0 : -9223372036854775807 ≤ a) (h1 : a ≤ 9223372036854775807) : spec_l01Floor.f a b = some (a / b) := by
  have hr := ediv_range a b hb 9223372036854775807 h0 h1 (by omega)
  obtain ⟨e1, e2⟩ := tdiv_pos_spec a b hb
  have hm := Int.emod_nonneg a (show b ≠ 0 by omega)
  have hm2 := Int.emod_lt_of_pos a hb
  unfold spec_l01Floor.f
  rw [if_neg (by omega), if_neg (by omega), e1, e2]
  by_cases h : 0 ≤ a ∨ a % b = 0
  · rw [if_pos h, if_pos h, if_neg (by omega), wid _ (by omega) (by omega)]
  · rw [if_neg h, if_neg h, if_pos (by omega)]
    have : a / b + 1 ≤ 0 := by
      have := Int.ediv_neg_of_neg_of_pos (show a < 0 by omega) hb
      omega
    rw [wid (a / b + 1) (by omega) (by omega), wid _ (by omega) (by omega)]; congr 1; omega

theorem spec_floor_neg (a b : Int) (hb : b < 0) (hb1 : -9223372036854775807 ≤ b) (h0 : -9223372036854775807 ≤ a) (h1 : a ≤ 9223372036854775807) : spec_l01Floor.f a b = some ((-a) / (-b)) := by
  have h := spec_floor_pos (-a) (-b) (by omega) (by omega) (by omega)
  unfold spec_l01Floor.f at h ⊢
  rw [if_neg (by omega), if_neg (by omega)] at h
  rw [if_pos hb, wid (-a) (by omega) (by omega), wid (-b) (by omega) (by omega), if_neg (by omega)]; exact h

/-- The floor of a fraction, whatever the sign of its denominator. -/
def flr (a b : Int) : Int := if 0 < b then a / b else (-a) / (-b)

theorem impl_floor_eq (a b : Int) (hb : b ≠ 0) (h0 : -9223372036854775807 ≤ a) (h1 : a ≤ 9223372036854775807) : impl_floor.f a b = some (flr a b) := by
  unfold flr; by_cases h : 0 < b
  · rw [if_pos h, impl_floor_pos a b h h0 h1]
  · rw [if_neg h, impl_floor_neg a b (by omega) h0 h1]

theorem spec_floor_eq (a b : Int) (hb : b ≠ 0) (hb1 : -9223372036854775807 ≤ b) (h0 : -9223372036854775807 ≤ a) (h1 : a ≤ 9223372036854775807) : spec_l01Floor.f a b = some (flr a b) := by
  unfold flr; by_cases h : 0 < b
  · rw [if_pos h, spec_floor_pos a b h h0 h1]
  · rw [if_neg h, spec_floor_neg a b (by omega) hb1 h0 h1]

theorem flr_range (a b : Int) (hb : b ≠ 0) (A : Int) (h0 : -A ≤ a) (h1 : a ≤ A) (hA : 0 ≤ A) : -A ≤ flr a b ∧ flr a b ≤ A := by
  unfold flr; by_cases h : 0 < b
  · rw [if_pos h]; exact ediv_range a b h A h0 h1 hA
  · rw [if_neg h]; exact ediv_range (-a) (-b) (by omega) A (by omega) (by omega) hA

theorem impl_ceil_eq (a b : Int) (hb : b ≠ 0) (h0 : -9223372036854775807 ≤ a) (h1 : a ≤ 9223372036854775807) : impl_ceil.f a b = some (-(flr (-a) b)) := by
  have := flr_range (-a) b hb 9223372036854775807 (by omega) (by omega) (by omega)
  unfold impl_ceil.f; rw [wid (-a) (by omega) (by omega), impl_floor_eq (-a) b hb (by omega) (by omega)]; simp only [Option.bind_some]; rw [wid _ (by omega) (by omega)]

theorem spec_ceil_eq (a b : Int) (hb : b ≠ 0) (hb1 : -9223372036854775807 ≤ b) (h0 : -9223372036854775807 ≤ a) (h1 : a ≤ 9223372036854775807) : spec_l01Ceil.f a b = some (-(flr (-a) b)) := by
  have := flr_range (-a) b hb 9223372036854775807 (by omega) (by omega) (by omega)
  unfold spec_l01Ceil.f; rw [wid (-a) (by omega) (by omega), spec_floor_eq (-a) b hb hb1 (by omega) (by omega)]; simp only [Option.bind_some]; rw [wid _ (by omega) (by omega)]

theorem mul_range (x y X Y : Int) (h0 : -X ≤ x) (h1 : x ≤ X) (hy : 0 ≤ y) (hy1 : y ≤ Y) : -(X * Y) ≤ x * y ∧ x * y ≤ X * Y := by
  have hX : 0 ≤ X := by omega
  have k1 : x * y ≤ X * y := Int.mul_le_mul_of_nonneg_right h1 hy
  have k2 : X * y ≤ X * Y := Int.mul_le_mul_of_nonneg_left hy1 hX
  have k3 : (-X) * y ≤ x * y := Int.mul_le_mul_of_nonneg_right h0 hy
  rw [Int.neg_mul] at k3
  omega

theorem bind_dec {α : Type} (p : Prop) [Decidable p] (A : Option α) (B : α) : ((some (decide p)).bind fun t => if t = true then A else some B) = if p then A else some B := by
  by_cases h : p <;> simp [h]

theorem dec_and (p q : Prop) [Decidable p] [Decidable q] : (if decide p = true then some (decide q) else some false) = some (decide (p ∧ q)) := by
  by_cases h : p <;> simp [h]

theorem some_dec {p q : Prop} [Decidable p] [Decidable q] (h : p ↔ q) : some (decide p) = some (decide q) := by rw [decide_eq_decide.2 h]

theorem impl_isInterval_eq (a b : Int) : impl_IsInterval.f a b = some (decide (-1000000000000 ≤ a ∧ b ≤ 1000000000000 ∧ a ≤ b)) := by
  unfold impl_IsInterval.f
  rw [impl_isValue_eq, impl_isValue_eq]
  simp only [Option.bind_some, dec_and]
  apply some_dec; omega

theorem impl_within_eq (a b m : Int) (h0 : 0 ≤ m) (h1 : m ≤ 1000000000000) : impl_Interval_within.f a b m = some (decide (-m ≤ a ∧ a ≤ m ∧ -m ≤ b ∧ b ≤ m)) := by
  unfold impl_Interval_within.f
  rw [wid (-m) (by omega) (by omega), impl_in_eq, impl_in_eq]
  simp only [Option.bind_some, dec_and]
  apply some_dec; omega

theorem chain_not {α : Type} (p q : Prop) [Decidable p] [Decidable q] (J : Bool → Option α) : ((some (decide p)).bind fun t => if t = true then ((some (decide q)).bind fun s => J (!s)) else J true) = J (!decide (p ∧ q)) := by
  by_cases h : p <;> by_cases h2 : q <;> simp [h, h2]

theorem ite_notdec {α : Type} (p : Prop) [Decidable p] (A B : α) : (if (!decide p) = true then A else B) = if p then B else A := by
  by_cases h : p <;> simp [h]

theorem mul_abs (x y X Y : Int) (h0 : -X ≤ x) (h1 : x ≤ X) (h2 : -Y ≤ y) (h3 : y ≤ Y) : -(X * Y) ≤ x * y ∧ x * y ≤ X * Y := by
  by_cases h : 0 ≤ y
  · exact mul_range x y X Y h0 h1 h h3
  · have := mul_range x (-y) X Y h0 h1 (by omega) (by omega)
    rw [Int.mul_neg] at this; omega

def mulLo (a b c d : Int) : Int := (mn (mn (mn (a * c) (a * d)) (b * c)) (b * d)) / 1000000

def mulHi (a b c d : Int) : Int := -((-(mx (mx (mx (a * c) (a * d)) (b * c)) (b * d))) / 1000000)

theorem flr_pos (a b : Int) (h : 0 < b) : flr a b = a / b := by unfold flr; rw [if_pos h]

/-- The products of two intervals whose bounds are at most A and B. -/
theorem prods (a b c d A B : Int) (ha : -A ≤ a ∧ a ≤ A) (hb : -A ≤ b ∧ b ≤ A) (hc : -B ≤ c ∧ c ≤ B) (hd : -B ≤ d ∧ d ≤ B) :
    (-(A * B) ≤ a * c ∧ a * c ≤ A * B) ∧ (-(A * B) ≤ a * d ∧ a * d ≤ A * B) ∧ (-(A * B) ≤ b * c ∧ b * c ≤ A * B) ∧ (-(A * B) ≤ b * d ∧ b * d ≤ A * B) :=
  ⟨mul_abs a c A B ha.1 ha.2 hc.1 hc.2, mul_abs a d A B ha.1 ha.2 hd.1 hd.2, mul_abs b c A B hb.1 hb.2 hc.1 hc.2, mul_abs b d A B hb.1 hb.2 hd.1 hd.2⟩

theorem mul_bounds (a b c d M : Int) (h1 : -M ≤ a * c ∧ a * c ≤ M) (h2 : -M ≤ a * d ∧ a * d ≤ M) (h3 : -M ≤ b * c ∧ b * c ≤ M) (h4 : -M ≤ b * d ∧ b * d ≤ M) :
    (-M ≤ mn (mn (mn (a * c) (a * d)) (b * c)) (b * d) ∧ mn (mn (mn (a * c) (a * d)) (b * c)) (b * d) ≤ M) ∧ (-M ≤ mx (mx (mx (a * c) (a * d)) (b * c)) (b * d) ∧ mx (mx (mx (a * c) (a * d)) (b * c)) (b * d) ≤ M) := by
  unfold mn mx
  generalize a * c = p at *; generalize a * d = q at *; generalize b * c = r at *; generalize b * d = s at *
  constructor
  · repeat' split
    all_goals omega
  · repeat' split
    all_goals omega

theorem impl_times_eq (a b c d M : Int) (hM : M ≤ 4000000000000000000) (h1 : -M ≤ a * c ∧ a * c ≤ M) (h2 : -M ≤ a * d ∧ a * d ≤ M) (h3 : -M ≤ b * c ∧ b * c ≤ M) (h4 : -M ≤ b * d ∧ b * d ≤ M) :
    impl_Interval_times.f a b c d = some (mulLo a b c d, mulHi a b c d) := by
  obtain ⟨k1, k2⟩ := mul_bounds a b c d M h1 h2 h3 h4
  unfold impl_Interval_times.f mulLo mulHi
  rw [wid (a * c) (by omega) (by omega), wid (a * d) (by omega) (by omega), wid (b * c) (by omega) (by omega), wid (b * d) (by omega) (by omega),
    impl_floor_pos _ _ (by omega) (by omega) (by omega), impl_ceil_eq _ _ (by omega) (by omega) (by omega), flr_pos _ _ (by omega)]; rfl

theorem spec_mul_eq (a b c d M : Int) (hM : M ≤ 4000000000000000000) (h1 : -M ≤ a * c ∧ a * c ≤ M) (h2 : -M ≤ a * d ∧ a * d ≤ M) (h3 : -M ≤ b * c ∧ b * c ≤ M) (h4 : -M ≤ b * d ∧ b * d ≤ M) :
    spec_l02Mul.f a b c d = some (mulLo a b c d, mulHi a b c d) := by
  obtain ⟨k1, k2⟩ := mul_bounds a b c d M h1 h2 h3 h4
  unfold spec_l02Mul.f mulLo mulHi
  rw [wid (a * c) (by omega) (by omega), wid (a * d) (by omega) (by omega), wid (b * c) (by omega) (by omega), wid (b * d) (by omega) (by omega),
    spec_floor_pos _ _ (by omega) (by omega) (by omega), spec_ceil_eq _ _ (by omega) (by omega) (by omega) (by omega), flr_pos _ _ (by omega)]; rfl

theorem spec_plain_eq (a : Int) : spec_l03Plain.f a = some (a % 1296000) := by
  unfold spec_l03Plain.f; rw [spec_mod_pos a _ (by omega) (by omega)]; rfl

def tst (T Y d : Int) : Int := T * Y / 1000000000 / d

theorem tst_range (T Y d : Int) (h0 : 0 ≤ T) (h1 : 0 ≤ Y) (h2 : Y ≤ 1000000000) (hd : 0 < d) : 0 ≤ tst T Y d ∧ tst T Y d ≤ T := by
  unfold tst
  have m0 : 0 ≤ T * Y := Int.mul_nonneg h0 h1
  have m1 : T * Y ≤ T * 1000000000 := Int.mul_le_mul_of_nonneg_left h2 h0
  have q0 : 0 ≤ T * Y / 1000000000 := by omega
  have q1 : T * Y / 1000000000 ≤ T := by omega
  exact ⟨Int.ediv_nonneg q0 (by omega), Int.le_trans (Int.ediv_le_self d q0) q1⟩

theorem tstep (T Y d : Int) (h0 : 0 ≤ T) (h1 : T ≤ 1000000000) (h2 : 0 ≤ Y) (h3 : Y ≤ 1000000000) (hd : 0 < d) :
    wrap64 (Int.tdiv (wrap64 (Int.tdiv (wrap64 (T * Y)) 1000000000)) d) = tst T Y d := by
  have m0 : 0 ≤ T * Y := Int.mul_nonneg h0 h2
  have m1 : T * Y ≤ T * 1000000000 := Int.mul_le_mul_of_nonneg_left h3 h0
  obtain ⟨k0, k1⟩ := tst_range T Y d h0 h2 h3 hd
  rw [wid (T * Y) (by omega) (by omega), tdivP _ _ m0, wid (T * Y / 1000000000) (by omega) (by omega), tdivP _ _ (by omega)]
  exact wid _ (by unfold tst at k0; omega) (by unfold tst at k1; omega)

def pX (r : Int) : Int := r * 48481368 / 10000

def pY (r : Int) : Int := pX r * pX r / 1000000000

def pT3 (r : Int) : Int := tst (pX r) (pY r) 6

def pT5 (r : Int) : Int := tst (pT3 r) (pY r) 20

def pT7 (r : Int) : Int := tst (pT5 r) (pY r) 42

def pT9 (r : Int) : Int := tst (pT7 r) (pY r) 72

def pC2 (r : Int) : Int := pY r / 2

def pC4 (r : Int) : Int := tst (pC2 r) (pY r) 12

def pC6 (r : Int) : Int := tst (pC4 r) (pY r) 30

def pC8 (r : Int) : Int := tst (pC6 r) (pY r) 56

def pC10 (r : Int) : Int := tst (pC8 r) (pY r) 90

def polyP (r : Int) : Int := pX r - pT3 r + pT5 r - pT7 r + pT9 r

def polyQ (r : Int) : Int := 1000000000 - pC2 r + pC4 r - pC6 r + pC8 r - pC10 r

theorem pX_range (r : Int) (h0 : 0 ≤ r) (h1 : r ≤ 162000) : 0 ≤ pX r ∧ pX r ≤ 785398162 := by unfold pX; omega

theorem pY_range (r : Int) (h0 : 0 ≤ r) (h1 : r ≤ 162000) : 0 ≤ pY r ∧ pY r ≤ 785398162 := by
  obtain ⟨a, b⟩ := pX_range r h0 h1
  have m0 : 0 ≤ pX r * pX r := Int.mul_nonneg a a
  have m1 : pX r * pX r ≤ pX r * 785398162 := Int.mul_le_mul_of_nonneg_left b a
  unfold pY; omega

theorem pT_range (r : Int) (h0 : 0 ≤ r) (h1 : r ≤ 162000) : (0 ≤ pT3 r ∧ pT3 r ≤ pX r) ∧ (0 ≤ pT5 r ∧ pT5 r ≤ pT3 r) ∧ (0 ≤ pT7 r ∧ pT7 r ≤ pT5 r) ∧ (0 ≤ pT9 r ∧ pT9 r ≤ pT7 r) := by
  have a := pX_range r h0 h1
  have y := pY_range r h0 h1
  have t3 : 0 ≤ pT3 r ∧ pT3 r ≤ pX r := tst_range _ _ _ (by omega) (by omega) (by omega) (by omega)
  have t5 : 0 ≤ pT5 r ∧ pT5 r ≤ pT3 r := tst_range _ _ _ (by omega) (by omega) (by omega) (by omega)
  have t7 : 0 ≤ pT7 r ∧ pT7 r ≤ pT5 r := tst_range _ _ _ (by omega) (by omega) (by omega) (by omega)
  have t9 : 0 ≤ pT9 r ∧ pT9 r ≤ pT7 r := tst_range _ _ _ (by omega) (by omega) (by omega) (by omega)
  exact ⟨t3, t5, t7, t9⟩

theorem pC_range (r : Int) (h0 : 0 ≤ r) (h1 : r ≤ 162000) : (0 ≤ pC2 r ∧ pC2 r ≤ 392699081) ∧ (0 ≤ pC4 r ∧ pC4 r ≤ pC2 r) ∧ (0 ≤ pC6 r ∧ pC6 r ≤ pC4 r) ∧ (0 ≤ pC8 r ∧ pC8 r ≤ pC6 r) ∧ (0 ≤ pC10 r ∧ pC10 r ≤ pC8 r) := by
  have y := pY_range r h0 h1
  have c2 : 0 ≤ pC2 r ∧ pC2 r ≤ 392699081 := by unfold pC2; omega
  have c4 : 0 ≤ pC4 r ∧ pC4 r ≤ pC2 r := tst_range _ _ _ (by omega) (by omega) (by omega) (by omega)
  have c6 : 0 ≤ pC6 r ∧ pC6 r ≤ pC4 r := tst_range _ _ _ (by omega) (by omega) (by omega) (by omega)
  have c8 : 0 ≤ pC8 r ∧ pC8 r ≤ pC6 r := tst_range _ _ _ (by omega) (by omega) (by omega) (by omega)
  have c10 : 0 ≤ pC10 r ∧ pC10 r ≤ pC8 r := tst_range _ _ _ (by omega) (by omega) (by omega) (by omega)
  exact ⟨c2, c4, c6, c8, c10⟩

theorem polyP_range (r : Int) (h0 : 0 ≤ r) (h1 : r ≤ 162000) : -2000000000 ≤ polyP r ∧ polyP r ≤ 2500000000 := by
  have a := pX_range r h0 h1; have t := pT_range r h0 h1
  unfold polyP; omega

theorem polyQ_range (r : Int) (h0 : 0 ≤ r) (h1 : r ≤ 162000) : -2000000000 ≤ polyQ r ∧ polyQ r ≤ 2500000000 := by
  have t := pC_range r h0 h1
  unfold polyQ; omega

theorem spec_arc_eq (r : Int) (h0 : 0 ≤ r) (h1 : r ≤ 162000) : spec_l04Arc.f r = some (pX r, pY r) := by
  obtain ⟨a, b⟩ := pX_range r h0 h1
  have m0 : 0 ≤ pX r * pX r := Int.mul_nonneg a a
  have m1 : pX r * pX r ≤ pX r * 785398162 := Int.mul_le_mul_of_nonneg_left b a
  have e : wrap64 (Int.tdiv (wrap64 (r * 48481368)) 10000) = pX r := by
    rw [wid (r * 48481368) (by omega) (by omega), tdivP _ _ (by omega)]; exact wid (pX r) (by omega) (by omega)
  have e2 : wrap64 (Int.tdiv (wrap64 (pX r * pX r)) 1000000000) = pY r := by
    have y := pY_range r h0 h1
    rw [wid (pX r * pX r) (by omega) (by omega), tdivP _ _ m0]; exact wid (pY r) (by omega) (by omega)
  unfold spec_l04Arc.f
  rw [e, e2]

theorem spec_P_eq (r : Int) (h0 : 0 ≤ r) (h1 : r ≤ 162000) : spec_l04P.f r = some (polyP r) := by
  have a := pX_range r h0 h1; have y := pY_range r h0 h1; obtain ⟨t3, t5, t7, t9⟩ := pT_range r h0 h1
  unfold spec_l04P.f
  rw [spec_arc_eq r h0 h1]
  simp only [Option.bind_some]
  rw [tstep (pX r) (pY r) 6 (by omega) (by omega) (by omega) (by omega) (by omega), show tst (pX r) (pY r) 6 = pT3 r from rfl,
    tstep (pT3 r) (pY r) 20 (by omega) (by omega) (by omega) (by omega) (by omega), show tst (pT3 r) (pY r) 20 = pT5 r from rfl,
    tstep (pT5 r) (pY r) 42 (by omega) (by omega) (by omega) (by omega) (by omega), show tst (pT5 r) (pY r) 42 = pT7 r from rfl,
    tstep (pT7 r) (pY r) 72 (by omega) (by omega) (by omega) (by omega) (by omega), show tst (pT7 r) (pY r) 72 = pT9 r from rfl,
    wid (pX r - pT3 r) (by omega) (by omega), wid (pX r - pT3 r + pT5 r) (by omega) (by omega), wid (pX r - pT3 r + pT5 r - pT7 r) (by omega) (by omega), wid (pX r - pT3 r + pT5 r - pT7 r + pT9 r) (by omega) (by omega)]
  rfl

theorem spec_Q_eq (r : Int) (h0 : 0 ≤ r) (h1 : r ≤ 162000) : spec_l04Q.f r = some (polyQ r) := by
  have y := pY_range r h0 h1; obtain ⟨c2, c4, c6, c8, c10⟩ := pC_range r h0 h1
  have e2 : wrap64 (Int.tdiv (pY r) 2) = pC2 r := by rw [tdivP _ _ (by omega)]; exact wid (pC2 r) (by omega) (by omega)
  unfold spec_l04Q.f
  rw [spec_arc_eq r h0 h1]
  simp only [Option.bind_some]
  rw [e2, tstep (pC2 r) (pY r) 12 (by omega) (by omega) (by omega) (by omega) (by omega), show tst (pC2 r) (pY r) 12 = pC4 r from rfl,
    tstep (pC4 r) (pY r) 30 (by omega) (by omega) (by omega) (by omega) (by omega), show tst (pC4 r) (pY r) 30 = pC6 r from rfl,
    tstep (pC6 r) (pY r) 56 (by omega) (by omega) (by omega) (by omega) (by omega), show tst (pC6 r) (pY r) 56 = pC8 r from rfl,
    tstep (pC8 r) (pY r) 90 (by omega) (by omega) (by omega) (by omega) (by omega), show tst (pC8 r) (pY r) 90 = pC10 r from rfl,
    wid (1000000000 - pC2 r) (by omega) (by omega), wid (1000000000 - pC2 r + pC4 r) (by omega) (by omega), wid (1000000000 - pC2 r + pC4 r - pC6 r) (by omega) (by omega), wid (1000000000 - pC2 r + pC4 r - pC6 r + pC8 r) (by omega) (by omega), wid (1000000000 - pC2 r + pC4 r - pC6 r + pC8 r - pC10 r) (by omega) (by omega)]
  rfl

/-- The sine in nano units, in the first half turn's quarters: q the quarter, r the angle within it. -/
def qsin (q r : Int) : Int := if r ≤ 162000 then (if q < 2 then polyP r else -(polyP r)) else (if q < 2 then polyQ (324000 - r) else -(polyQ (324000 - r)))

def nsin (a : Int) : Int := if a % 1296000 / 324000 % 2 = 1 then qsin (a % 1296000 / 324000) (324000 - a % 1296000 % 324000) else qsin (a % 1296000 / 324000) (a % 1296000 % 324000)

theorem qsin_range (q r : Int) (h0 : 0 ≤ r) (h1 : r ≤ 324000) : -2500000000 ≤ qsin q r ∧ qsin q r ≤ 2500000000 := by
  unfold qsin
  by_cases h : r ≤ 162000
  · have := polyP_range r h0 h
    rw [if_pos h]; by_cases c : q < 2
    · rw [if_pos c]; omega
    · rw [if_neg c]; omega
  · have := polyQ_range (324000 - r) (by omega) (by omega)
    rw [if_neg h]; by_cases c : q < 2
    · rw [if_pos c]; omega
    · rw [if_neg c]; omega

theorem nsin_range (a : Int) : -2500000000 ≤ nsin a ∧ nsin a ≤ 2500000000 := by
  unfold nsin
  by_cases h : a % 1296000 / 324000 % 2 = 1
  · rw [if_pos h]; exact qsin_range _ _ (by omega) (by omega)
  · rw [if_neg h]; exact qsin_range _ _ (by omega) (by omega)

theorem spec_l04Sine_j (k : Nat) (q r : Int) (h0 : 0 ≤ r) (h1 : r ≤ 324000) : spec_l04Sine.j0 (k + 1) q r = some (qsin q r) := by
  simp only [spec_l04Sine.j0]; unfold qsin
  by_cases h : r ≤ 162000
  · have := polyP_range r h0 h
    rw [if_pos h, if_pos h, spec_P_eq r h0 h]; simp only [Option.bind_some]
    rw [wid (-polyP r) (by omega) (by omega)]
    by_cases c : q < 2
    · rw [if_pos c, if_neg (by omega)]
    · rw [if_neg c, if_pos (by omega)]
  · have := polyQ_range (324000 - r) (by omega) (by omega)
    rw [if_neg h, if_neg h, wid (324000 - r) (by omega) (by omega), spec_Q_eq (324000 - r) (by omega) (by omega)]; simp only [Option.bind_some]
    rw [wid (-polyQ (324000 - r)) (by omega) (by omega)]
    by_cases c : q < 2
    · rw [if_pos c, if_neg (by omega)]
    · rw [if_neg c, if_pos (by omega)]

theorem spec_nanoSine_eq (k : Nat) (a : Int) : spec_l04Sine.f (k + 1) a = some (nsin a) := by
  unfold spec_l04Sine.f nsin
  rw [spec_plain_eq a]; simp only [Option.bind_some]
  rw [tdivP _ _ (show 0 ≤ a % 1296000 by omega), tmodP _ _ (show 0 ≤ a % 1296000 by omega), wid (a % 1296000 / 324000) (by omega) (by omega), tmodP _ _ (show 0 ≤ a % 1296000 / 324000 by omega), wid (324000 - a % 1296000 % 324000) (by omega) (by omega),
    spec_l04Sine_j k _ _ (by omega) (by omega), spec_l04Sine_j k _ _ (by omega) (by omega), apply_ite some]

def sLo (n : Int) : Int := (n - 60) / 1000

def sHi (n : Int) : Int := -((-(n + 60)) / 1000)

theorem spec_interval_eq (n : Int) (h0 : -4000000000000000000 ≤ n) (h1 : n ≤ 4000000000000000000) : spec_l04Interval.f n = some (sLo n, sHi n) := by
  unfold spec_l04Interval.f sLo sHi
  rw [wid (n - 60) (by omega) (by omega), wid (n + 60) (by omega) (by omega), spec_floor_pos _ _ (by omega) (by omega) (by omega), spec_ceil_eq _ _ (by omega) (by omega) (by omega) (by omega), flr_pos _ _ (by omega)]; rfl

theorem spec_sin_eq (k : Nat) (a : Int) : spec_l04Sin.f (k + 1) a = some (sLo (nsin a), sHi (nsin a)) := by
  have := nsin_range a
  unfold spec_l04Sin.f
  rw [spec_nanoSine_eq k a]; simp only [Option.bind_some]
  rw [spec_interval_eq _ (by omega) (by omega)]; rfl

theorem s_range (a : Int) : (-2600000 ≤ sLo (nsin a) ∧ sLo (nsin a) ≤ 2600000) ∧ (-2600000 ≤ sHi (nsin a) ∧ sHi (nsin a) ≤ 2600000) := by
  have := nsin_range a
  unfold sLo sHi; omega

theorem spec_nanoCosine_eq (k : Nat) (a : Int) (h0 : -8000000000000000000 ≤ a) (h1 : a ≤ 8000000000000000000) : spec_l04Cosine.f (k + 1) a = some (nsin (a + 324000)) := by
  unfold spec_l04Cosine.f; rw [wid _ (by omega) (by omega), spec_nanoSine_eq k]; rfl

theorem spec_cos_eq (k : Nat) (a : Int) (h0 : -8000000000000000000 ≤ a) (h1 : a ≤ 8000000000000000000) : spec_l04Cos.f (k + 1) a = some (sLo (nsin (a + 324000)), sHi (nsin (a + 324000))) := by
  have := nsin_range (a + 324000)
  unfold spec_l04Cos.f; rw [spec_nanoCosine_eq k a h0 h1]; simp only [Option.bind_some]
  rw [spec_interval_eq _ (by omega) (by omega)]; rfl

theorem impl_isPart_eq (a b : Int) : impl_isPart.f a b = some (decide (-10000000 ≤ a ∧ b ≤ 10000000 ∧ a ≤ b)) := by
  unfold impl_isPart.f
  rw [impl_isInterval_eq, impl_within_eq _ _ _ (by omega) (by omega)]
  simp only [Option.bind_some, dec_and]
  apply some_dec; omega

theorem spec_part_eq (a b : Int) : spec_l06Part.f a b = some (decide (-10000000 ≤ a ∧ b ≤ 10000000 ∧ a ≤ b)) := by
  unfold spec_l06Part.f
  rw [spec_in_eq, spec_in_eq]
  simp only [Option.bind_some, dec_and]
  apply some_dec; omega

abbrev isVec (a b c d e f : Int) : Prop := (-10000000 ≤ a ∧ b ≤ 10000000 ∧ a ≤ b) ∧ (-10000000 ≤ c ∧ d ≤ 10000000 ∧ c ≤ d) ∧ (-10000000 ≤ e ∧ f ≤ 10000000 ∧ e ≤ f)

theorem spec_isVec_eq (a b c d e f : Int) : spec_IsVector.f a b c d e f = some (decide (isVec a b c d e f)) := by
  unfold spec_IsVector.f; rw [spec_part_eq, spec_part_eq, spec_part_eq]
  simp only [Option.bind_some, dec_and]

theorem impl_isVec_eq (a b c d e f : Int) : impl_IsVector.f a b c d e f = some (decide (isVec a b c d e f)) := by
  unfold impl_IsVector.f; rw [impl_isPart_eq, impl_isPart_eq, impl_isPart_eq]
  simp only [Option.bind_some, dec_and]

def bnd (a b c d e f : Int) : Int × Int × Int × Int × Int × Int × Int := if isVec a b c d e f then (a, b, c, d, e, f, 0) else (0, 0, 0, 0, 0, 0, 3)

theorem impl_bounded_eq (a b c d e f : Int) : impl_bounded.f a b c d e f = some (bnd a b c d e f) := by
  unfold impl_bounded.f bnd; rw [impl_isVec_eq, bind_dec, apply_ite some]

theorem spec_l06Result_eq (a b c d e f : Int) : spec_l06Result.f a b c d e f = some (bnd a b c d e f) := by
  unfold spec_l06Result.f bnd; rw [spec_isVec_eq, bind_dec, apply_ite some]

theorem impl_plus_eq (a b c d : Int) (h1 : -4000000000000000000 ≤ a ∧ a ≤ 4000000000000000000) (h2 : -4000000000000000000 ≤ b ∧ b ≤ 4000000000000000000) (h3 : -4000000000000000000 ≤ c ∧ c ≤ 4000000000000000000) (h4 : -4000000000000000000 ≤ d ∧ d ≤ 4000000000000000000) : impl_Interval_plus.f a b c d = some (a + c, b + d) := by
  unfold impl_Interval_plus.f; rw [wid _ (by omega) (by omega), wid _ (by omega) (by omega)]

theorem spec_add_eq (a b c d : Int) (h1 : -4000000000000000000 ≤ a ∧ a ≤ 4000000000000000000) (h2 : -4000000000000000000 ≤ b ∧ b ≤ 4000000000000000000) (h3 : -4000000000000000000 ≤ c ∧ c ≤ 4000000000000000000) (h4 : -4000000000000000000 ≤ d ∧ d ≤ 4000000000000000000) : spec_l02Add.f a b c d = some (a + c, b + d) := by
  unfold spec_l02Add.f; rw [wid _ (by omega) (by omega), wid _ (by omega) (by omega)]

def addV (a b c d e f a' b' c' d' e' f' : Int) : Int × Int × Int × Int × Int × Int × Int :=
  if isVec a b c d e f ∧ isVec a' b' c' d' e' f' then bnd (a + a') (b + b') (c + c') (d + d') (e + e') (f + f') else (0, 0, 0, 0, 0, 0, 1)

theorem spec_AddVectors_eq (k : Nat) (a b c d e f a' b' c' d' e' f' : Int) : spec_AddVectors.f (k + 1) a b c d e f a' b' c' d' e' f' = some (addV a b c d e f a' b' c' d' e' f') := by
  unfold spec_AddVectors.f addV
  rw [spec_isVec_eq, spec_isVec_eq, chain_not _ _ (fun t => spec_AddVectors.j0 (k + 1) t a b c d e f a' b' c' d' e' f')]
  simp only [spec_AddVectors.j0]; rw [ite_notdec]
  by_cases h : isVec a b c d e f ∧ isVec a' b' c' d' e' f'
  · rw [if_pos h, if_pos h]; unfold spec_l06Add.f
    rw [spec_add_eq _ _ _ _ (by omega) (by omega) (by omega) (by omega), spec_add_eq _ _ _ _ (by omega) (by omega) (by omega) (by omega), spec_add_eq _ _ _ _ (by omega) (by omega) (by omega) (by omega)]
    simp only [Option.bind_some]; rw [spec_l06Result_eq]; rfl
  · rw [if_neg h, if_neg h]

theorem impl_AddVectors_eq (k : Nat) (a b c d e f a' b' c' d' e' f' : Int) : impl_AddVectors.f (k + 1) a b c d e f a' b' c' d' e' f' = some (addV a b c d e f a' b' c' d' e' f') := by
  unfold impl_AddVectors.f addV
  rw [impl_isVec_eq, impl_isVec_eq, chain_not _ _ (fun t => impl_AddVectors.j0 (k + 1) t a b c d e f a' b' c' d' e' f')]
  simp only [impl_AddVectors.j0]; rw [ite_notdec]
  by_cases h : isVec a b c d e f ∧ isVec a' b' c' d' e' f'
  · rw [if_pos h, if_pos h]
    rw [impl_plus_eq _ _ _ _ (by omega) (by omega) (by omega) (by omega), impl_plus_eq _ _ _ _ (by omega) (by omega) (by omega) (by omega), impl_plus_eq _ _ _ _ (by omega) (by omega) (by omega) (by omega)]
    simp only [Option.bind_some]; rw [impl_bounded_eq]; rfl
  · rw [if_neg h, if_neg h]

/-- The products of two parts: each in bounds. -/
theorem part_mul (a b c d A B M : Int) (hM : M = A * B) (hM0 : 0 ≤ M) (hM1 : M ≤ 4000000000000000000) (ha : -A ≤ a ∧ a ≤ A) (hb : -A ≤ b ∧ b ≤ A) (hc : -B ≤ c ∧ c ≤ B) (hd : -B ≤ d ∧ d ≤ B) :
    impl_Interval_times.f a b c d = some (mulLo a b c d, mulHi a b c d) := by
  obtain ⟨p1, p2, p3, p4⟩ := prods a b c d A B ha hb hc hd
  rw [← hM] at p1 p2 p3 p4
  exact impl_times_eq a b c d M hM1 p1 p2 p3 p4

theorem part_mul_spec (a b c d A B M : Int) (hM : M = A * B) (hM0 : 0 ≤ M) (hM1 : M ≤ 4000000000000000000) (ha : -A ≤ a ∧ a ≤ A) (hb : -A ≤ b ∧ b ≤ A) (hc : -B ≤ c ∧ c ≤ B) (hd : -B ≤ d ∧ d ≤ B) :
    spec_l02Mul.f a b c d = some (mulLo a b c d, mulHi a b c d) := by
  obtain ⟨p1, p2, p3, p4⟩ := prods a b c d A B ha hb hc hd
  rw [← hM] at p1 p2 p3 p4
  exact spec_mul_eq a b c d M hM1 p1 p2 p3 p4

theorem vec_impl_mul (a b c d : Int) (h : -10000000 ≤ a ∧ b ≤ 10000000 ∧ a ≤ b) (h' : -10000000 ≤ c ∧ d ≤ 10000000 ∧ c ≤ d) : impl_Interval_times.f a b c d = some (mulLo a b c d, mulHi a b c d) :=
  part_mul a b c d 10000000 10000000 100000000000000 (by omega) (by omega) (by omega) (by omega) (by omega) (by omega) (by omega)

theorem vec_spec_mul (a b c d : Int) (h : -10000000 ≤ a ∧ b ≤ 10000000 ∧ a ≤ b) (h' : -10000000 ≤ c ∧ d ≤ 10000000 ∧ c ≤ d) : spec_l02Mul.f a b c d = some (mulLo a b c d, mulHi a b c d) :=
  part_mul_spec a b c d 10000000 10000000 100000000000000 (by omega) (by omega) (by omega) (by omega) (by omega) (by omega) (by omega)

abbrev prt (a b : Int) : Prop := -10000000 ≤ a ∧ b ≤ 10000000 ∧ a ≤ b

def scaV (a b c d e f x y : Int) : Int × Int × Int × Int × Int × Int × Int :=
  if isVec a b c d e f ∧ prt x y then bnd (mulLo a b x y) (mulHi a b x y) (mulLo c d x y) (mulHi c d x y) (mulLo e f x y) (mulHi e f x y) else (0, 0, 0, 0, 0, 0, 1)

theorem spec_ScaleVector_eq (k : Nat) (a b c d e f x y : Int) : spec_ScaleVector.f (k + 1) a b c d e f x y = some (scaV a b c d e f x y) := by
  unfold spec_ScaleVector.f scaV
  rw [spec_isVec_eq, spec_part_eq, chain_not _ _ (fun t => spec_ScaleVector.j0 (k + 1) t a b c d e f x y)]
  simp only [spec_ScaleVector.j0]; rw [ite_notdec]
  by_cases h : isVec a b c d e f ∧ prt x y
  · rw [if_pos h, if_pos h]; obtain ⟨⟨h1, h2, h3⟩, h4⟩ := h
    unfold spec_l06Scale.f
    rw [vec_spec_mul _ _ _ _ h1 h4, vec_spec_mul _ _ _ _ h2 h4, vec_spec_mul _ _ _ _ h3 h4]; simp only [Option.bind_some]
    rw [spec_l06Result_eq]; rfl
  · rw [if_neg h, if_neg h]

theorem impl_ScaleVector_eq (k : Nat) (a b c d e f x y : Int) : impl_ScaleVector.f (k + 1) a b c d e f x y = some (scaV a b c d e f x y) := by
  unfold impl_ScaleVector.f scaV
  rw [impl_isVec_eq, impl_isPart_eq, chain_not _ _ (fun t => impl_ScaleVector.j0 (k + 1) t a b c d e f x y)]
  simp only [impl_ScaleVector.j0]; rw [ite_notdec]
  by_cases h : isVec a b c d e f ∧ prt x y
  · rw [if_pos h, if_pos h]; obtain ⟨⟨h1, h2, h3⟩, h4⟩ := h
    rw [vec_impl_mul _ _ _ _ h1 h4, vec_impl_mul _ _ _ _ h2 h4, vec_impl_mul _ _ _ _ h3 h4]; simp only [Option.bind_some]
    rw [impl_bounded_eq]; rfl
  · rw [if_neg h, if_neg h]

theorem sin_spec_mul (x y : Int) : spec_l02Mul.f (sLo (nsin x)) (sHi (nsin x)) (sLo (nsin y)) (sHi (nsin y)) = some (mulLo (sLo (nsin x)) (sHi (nsin x)) (sLo (nsin y)) (sHi (nsin y)), mulHi (sLo (nsin x)) (sHi (nsin x)) (sLo (nsin y)) (sHi (nsin y))) :=
  part_mul_spec _ _ _ _ 2600000 2600000 6760000000000 (by omega) (by omega) (by omega) (s_range x).1 (s_range x).2 (s_range y).1 (s_range y).2

def dirV (a b : Int) : Int × Int × Int × Int × Int × Int :=
  (mulLo (sLo (nsin a)) (sHi (nsin a)) (sLo (nsin (b + 324000))) (sHi (nsin (b + 324000))), mulHi (sLo (nsin a)) (sHi (nsin a)) (sLo (nsin (b + 324000))) (sHi (nsin (b + 324000))),
   mulLo (sLo (nsin (a + 324000))) (sHi (nsin (a + 324000))) (sLo (nsin (b + 324000))) (sHi (nsin (b + 324000))), mulHi (sLo (nsin (a + 324000))) (sHi (nsin (a + 324000))) (sLo (nsin (b + 324000))) (sHi (nsin (b + 324000))),
   sLo (nsin b), sHi (nsin b))

theorem spec_to_eq (k : Nat) (a b : Int) (h0 : -8000000000000000000 ≤ a) (h1 : a ≤ 8000000000000000000) (h2 : -8000000000000000000 ≤ b) (h3 : b ≤ 8000000000000000000) : spec_l06To.f (k + 1) a b = some (dirV a b) := by
  unfold spec_l06To.f
  rw [spec_cos_eq k b h2 h3, spec_sin_eq k a, spec_cos_eq k a h0 h1, spec_sin_eq k b]; simp only [Option.bind_some]
  rw [sin_spec_mul, sin_spec_mul]; rfl

/-- A source of draws over the code l: how many of its bytes are used, and its seed. -/
def src (l : List Int) (t s : Int) : Prop := (0 ≤ t ∧ t ≤ (l.length : Int)) ∧ (l.length ≤ 4096 ∧ ∀ x ∈ l, 0 ≤ x ∧ x ≤ 255) ∧ (0 ≤ s ∧ s < 2147483647)

theorem rd_byte (l : List Int) (h : ∀ x ∈ l, 0 ≤ x ∧ x ≤ 255) (i : Int) : 0 ≤ rd l i ∧ rd l i ≤ 255 := by
  unfold rd
  by_cases c : i.toNat < l.length
  · rw [List.getD_eq_getElem?_getD, List.getElem?_eq_getElem c]; exact h _ (List.getElem_mem c)
  · rw [List.getD_eq_getElem?_getD, List.getElem?_eq_none (by omega)]; simp

theorem from_loop (l : List Int) (hl : l.length ≤ 4096) (hb : ∀ x ∈ l, 0 ≤ x ∧ x ≤ 255) : ∀ (d : Nat) (i s : Int), 0 ≤ i → 64 - i ≤ d → 0 ≤ s → s < 2147483647 →
    ∃ s', (0 ≤ s' ∧ s' < 2147483647) ∧ ∀ k, d < k → spec_l01From.l0 k l i l 0 s = some (l, 0, s') := by
  intro d
  induction d with
  | zero =>
    intro i s h0 h1 h2 h3
    refine ⟨s, ⟨h2, h3⟩, fun k hk => ?_⟩
    obtain ⟨k, rfl⟩ : ∃ z, k = z + 1 := ⟨k - 1, by omega⟩
    simp only [spec_l01From.l0]
    by_cases c : i < (l.length : Int)
    · rw [if_pos c, if_neg (by omega)]
    · rw [if_neg c]
  | succ d ih =>
    intro i s h0 h1 h2 h3
    by_cases c : i < (l.length : Int)
    · by_cases c2 : i < 64
      · have hr := rd_byte l hb i
        have e1 : wrap64 (s * 71) = s * 71 := wid _ (by omega) (by omega)
        have e2 : wrap64 (rd l i) = rd l i := wid _ (by omega) (by omega)
        have e3 : wrap64 (s * 71 + rd l i) = s * 71 + rd l i := wid _ (by omega) (by omega)
        have e4 : Int.tmod (s * 71 + rd l i) 2147483647 = (s * 71 + rd l i) % 2147483647 := tmodP _ _ (by omega)
        obtain ⟨s', hs, hk⟩ := ih (i + 1) ((s * 71 + rd l i) % 2147483647) (by omega) (by omega) (by omega) (by omega)
        refine ⟨s', hs, fun k hk' => ?_⟩
        obtain ⟨k, rfl⟩ : ∃ z, k = z + 1 := ⟨k - 1, by omega⟩
        simp only [spec_l01From.l0]
        rw [if_pos c, if_pos c2, if_pos h0, e1, e2, e3, e4, wid (i + 1) (by omega) (by omega)]
        exact hk k (by omega)
      · refine ⟨s, ⟨h2, h3⟩, fun k hk => ?_⟩
        obtain ⟨k, rfl⟩ : ∃ z, k = z + 1 := ⟨k - 1, by omega⟩
        simp only [spec_l01From.l0]; rw [if_pos c, if_neg c2]
    · refine ⟨s, ⟨h2, h3⟩, fun k hk => ?_⟩
      obtain ⟨k, rfl⟩ : ∃ z, k = z + 1 := ⟨k - 1, by omega⟩
      simp only [spec_l01From.l0]; rw [if_neg c]

theorem from_eq (l : List Int) (hl : l.length ≤ 4096) (hb : ∀ x ∈ l, 0 ≤ x ∧ x ≤ 255) : ∃ s, src l 0 s ∧ ∀ k, 64 < k → spec_l01From.f k l = some (l, 0, s) := by
  obtain ⟨s, hs, hk⟩ := from_loop l hl hb 64 0 21013 (by omega) (by omega) (by omega) (by omega)
  exact ⟨s, ⟨⟨by omega, by omega⟩, ⟨hl, hb⟩, hs⟩, hk⟩

theorem next_eq {l : List Int} {t s : Int} (h : src l t s) (n : Int) (hn : n ≤ 1000000000000000000) : ∃ v t' s', spec_l01Next.f l t s n = some (v, t', s') ∧ src l t' s' ∧ 0 ≤ v ∧ (v < n ∨ v = 0 ∧ n ≤ 1) := by
  obtain ⟨⟨t0, t1⟩, ⟨l0, l1⟩, s0, s1⟩ := h
  unfold spec_l01Next.f
  by_cases c : n ≤ 1
  · rw [if_pos c]; exact ⟨0, t, s, rfl, ⟨⟨t0, t1⟩, ⟨l0, l1⟩, s0, s1⟩, by omega, .inr ⟨rfl, c⟩⟩
  · have e1 : wrap64 (s * 48271) = s * 48271 := wid _ (by omega) (by omega)
    have e2 : wrap64 (s * 48271 + 29) = s * 48271 + 29 := wid _ (by omega) (by omega)
    have e3 : Int.tmod (s * 48271 + 29) 2147483647 = (s * 48271 + 29) % 2147483647 := tmodP _ _ (by omega)
    rw [if_neg c, e1, e2, e3]
    generalize hq : (s * 48271 + 29) % 2147483647 = q
    have q0 : 0 ≤ q ∧ q < 2147483647 := by omega
    have e4 : wrap64 (Int.tdiv q 31) = q / 31 := by rw [tdivP _ _ q0.1]; exact wid _ (by omega) (by omega)
    have n0 : ¬ n = 0 := by omega
    rw [e4]
    have hm : ∀ x : Int, 0 ≤ x → 0 ≤ Int.tmod x n ∧ Int.tmod x n < n := by
      intro x hx
      rw [tmodP _ _ hx]; exact ⟨Int.emod_nonneg _ (by omega), Int.emod_lt_of_pos _ (by omega)⟩
    by_cases c1 : t < (l.length : Int)
    · have hr := rd_byte l l1 t
      have e5 : wrap64 (t + 1) = t + 1 := wid _ (by omega) (by omega)
      have e6 : wrap64 (rd l t) = rd l t := wid _ (by omega) (by omega)
      have e7 : wrap64 (q / 31 + rd l t) = q / 31 + rd l t := wid _ (by omega) (by omega)
      have e8 : wrap64 (t + 1 - 1) = t := by rw [show t + 1 - 1 = t by omega]; exact wid _ (by omega) (by omega)
      rw [if_pos c1, if_pos t0, e5, e8, e6, e7, if_neg n0, if_neg n0, if_pos t0, if_pos c1]
      have hs' : src l (t + 1) q := ⟨⟨by omega, by omega⟩, ⟨l0, l1⟩, q0.1, q0.2⟩
      have a1 := hm (rd l t) hr.1
      have a2 := hm (q / 31 + rd l t) (by omega)
      by_cases c2 : n ≤ 256
      · rw [if_pos c2]
        by_cases c3 : Int.tmod (t + 1) 2 = 0
        · rw [if_pos c3]; exact ⟨_, _, _, rfl, hs', a1.1, .inl a1.2⟩
        · rw [if_neg c3]; exact ⟨_, _, _, rfl, hs', a2.1, .inl a2.2⟩
      · rw [if_neg c2]; exact ⟨_, _, _, rfl, hs', a2.1, .inl a2.2⟩
    · have a3 := hm (q / 31) (by omega)
      rw [if_neg c1, if_neg n0]; exact ⟨_, _, _, rfl, ⟨⟨t0, t1⟩, ⟨l0, l1⟩, q0.1, q0.2⟩, a3.1, .inl a3.2⟩

theorem pick_eq {l : List Int} {t s : Int} (h : src l t s) (xs : List Int) (h1 : 0 < xs.length) (h2 : xs.length ≤ 100) : ∃ v t' s', spec_l01Pick.f l t s xs = some (v, t', s') ∧ src l t' s' ∧ v ∈ xs := by
  obtain ⟨v, t', s', e, hs, v0, v1⟩ := next_eq h (xs.length : Int) (by omega)
  unfold spec_l01Pick.f
  rw [e]; simp only [Option.bind_some]
  have hv : v < (xs.length : Int) := by omega
  rw [if_pos v0, if_pos hv]
  refine ⟨_, _, _, rfl, hs, ?_⟩
  unfold rd
  have hlt : v.toNat < xs.length := by omega
  rw [List.getD_eq_getElem?_getD, List.getElem?_eq_getElem hlt]; exact List.getElem_mem hlt

theorem drawValue_eq {l : List Int} {t s : Int} (h : src l t s) : ∃ v t' s', spec_l01DrawValue.f l t s = some (v, t', s') ∧ src l t' s' ∧ -2000000000000 ≤ v ∧ v ≤ 2000000000000 := by
  unfold spec_l01DrawValue.f
  obtain ⟨v1, t1, s1, e1, h1, b1, _⟩ := next_eq h 10 (by omega)
  rw [e1]; simp only [Option.bind_some]
  by_cases c : v1 = 0
  · obtain ⟨v2, t2, s2, e2, h2, m2⟩ := pick_eq h1 [0, 1000000000000, 1000000000001, (-1000000000000), (-1000000000001), 1] (by simp) (by simp)
    rw [if_pos c, e2]; simp only [Option.bind_some]
    refine ⟨v2, t2, s2, rfl, h2, ?_⟩
    simp only [List.mem_cons, List.not_mem_nil, or_false] at m2; omega
  · obtain ⟨v2, t2, s2, e2, h2, b2, c2⟩ := next_eq h1 41 (by omega)
    obtain ⟨v3, t3, s3, e3, h3, b3, c3⟩ := next_eq h2 2001 (by omega)
    obtain ⟨v4, t4, s4, e4, h4, b4, c4⟩ := next_eq h3 2000000001 (by omega)
    rw [if_neg c, e2]; simp only [Option.bind_some]
    rw [e3]; simp only [Option.bind_some]
    rw [e4]; simp only [Option.bind_some]
    rw [wid (v2 - 20) (by omega) (by omega), wid (v3 - 1000) (by omega) (by omega), wid (v4 - 1000000000) (by omega) (by omega)]
    obtain ⟨v5, t5, s5, e5, h5, m5⟩ := pick_eq h4 [v2 - 20, v3 - 1000, v4 - 1000000000] (by simp) (by simp)
    rw [e5]; simp only [Option.bind_some]
    refine ⟨v5, t5, s5, rfl, h5, ?_⟩
    simp only [List.mem_cons, List.not_mem_nil, or_false] at m5; omega

theorem l03Draw_eq {l : List Int} {t s : Int} (h : src l t s) : ∃ v t' s', spec_l03Draw.f l t s = some (v, t', s') ∧ src l t' s' ∧ -2000000000000 ≤ v ∧ v ≤ 2000000000000 := by
  unfold spec_l03Draw.f
  obtain ⟨v1, t1, s1, e1, h1, b1, _⟩ := next_eq h 12 (by omega)
  rw [e1]; simp only [Option.bind_some]
  by_cases c : v1 = 0
  · obtain ⟨v2, t2, s2, e2, h2, m2⟩ := pick_eq h1 [0, 648000, (-648000), 1296000, 324000, 1295999, 647999] (by simp) (by simp)
    rw [if_pos c, e2]; simp only [Option.bind_some]
    refine ⟨v2, t2, s2, rfl, h2, ?_⟩
    simp only [List.mem_cons, List.not_mem_nil, or_false] at m2; omega
  · rw [if_neg c]
    by_cases d : v1 = 1
    · obtain ⟨v2, t2, s2, e2, h2, m2⟩ := drawValue_eq h1
      rw [if_pos d, e2]; simp only [Option.bind_some]
      exact ⟨v2, t2, s2, rfl, h2, m2⟩
    · obtain ⟨v2, t2, s2, e2, h2, b2, c2⟩ := next_eq h1 1296000 (by omega)
      obtain ⟨v3, t3, s3, e3, h3, b3, c3⟩ := next_eq h2 3888000 (by omega)
      obtain ⟨v4, t4, s4, e4, h4, b4, c4⟩ := next_eq h3 721 (by omega)
      rw [if_neg d, e2]; simp only [Option.bind_some]
      rw [e3]; simp only [Option.bind_some]
      rw [e4]; simp only [Option.bind_some]
      rw [wid (v3 - 1296000) (by omega) (by omega), wid (v4 - 360) (by omega) (by omega), wid (3600 * (v4 - 360)) (by omega) (by omega)]
      obtain ⟨v5, t5, s5, e5, h5, m5⟩ := pick_eq h4 [v2, v3 - 1296000, 3600 * (v4 - 360)] (by simp) (by simp)
      rw [e5]; simp only [Option.bind_some]
      refine ⟨v5, t5, s5, rfl, h5, ?_⟩
      simp only [List.mem_cons, List.not_mem_nil, or_false] at m5; omega

/-- What the laws over a code take of it. -/
theorem code_bytes {l : List Int} (h : ∀ x ∈ l, (Lit.int .u8 x).wf = true) : ∀ x ∈ l, 0 ≤ x ∧ x ≤ 255 := by
  intro x hx
  have := h x hx
  simp [Lit.wf, IntKind.min, IntKind.max, IntKind.signed, IntKind.bits] at this
  omega

theorem big_eq (l : List Int) : laws_big.f l = some (decide ((l.length : Int) > 4096)) := rfl

theorem drawPart_eq {l : List Int} {t s : Int} (h : src l t s) : ∃ a b t' s', spec_l06DrawPart.f l t s = some (a, b, t', s') ∧ src l t' s' := by
  obtain ⟨v1, t1, s1, e1, h1, b1, c1⟩ := next_eq h 2000001 (by omega)
  obtain ⟨v2, t2, s2, e2, h2, b2, c2⟩ := next_eq h1 2001 (by omega)
  obtain ⟨v3, t3, s3, e3, h3, m3⟩ := pick_eq h2 [wrap64 (v1 - 1000000), wrap64 (v2 - 1000), 0] (by simp) (by simp)
  obtain ⟨v4, t4, s4, e4, h4, b4, c4⟩ := next_eq h3 1000 (by omega)
  obtain ⟨v5, t5, s5, e5, h5, m5⟩ := pick_eq h4 [0, 1, 2, v4] (by simp) (by simp)
  obtain ⟨v6, t6, s6, e6, h6, b6, c6⟩ := next_eq h5 40 (by omega)
  obtain ⟨v7, t7, s7, e7, h7, m7⟩ := pick_eq h6 [(-10000000), (-10000001), 0] (by simp) (by simp)
  obtain ⟨v8, t8, s8, e8, h8, m8⟩ := pick_eq h7 [10000000, 10000001] (by simp) (by simp)
  unfold spec_l06DrawPart.f
  rw [e1]; simp only [Option.bind_some]
  rw [e2]; simp only [Option.bind_some]
  rw [e3]; simp only [Option.bind_some]
  rw [e4]; simp only [Option.bind_some]
  rw [e5]; simp only [Option.bind_some]
  rw [e6]; simp only [Option.bind_some]
  by_cases d0 : v6 = 0
  · rw [if_pos d0]; exact ⟨_, _, _, _, rfl, h6⟩
  · by_cases d1 : v6 = 1
    · rw [if_neg d0, if_pos d1, e7]; simp only [Option.bind_some]
      rw [e8]; exact ⟨_, _, _, _, rfl, h8⟩
    · rw [if_neg d0, if_neg d1]; exact ⟨_, _, _, _, rfl, h6⟩

theorem l06Draw_eq {l : List Int} {t s : Int} (h : src l t s) : ∃ a b c d e f t' s', (∀ k, 1 < k → spec_l06Draw.f k l t s = some (a, b, c, d, e, f, t', s')) ∧ src l t' s' := by
  obtain ⟨v1, t1, s1, e1, h1, b1, c1⟩ := next_eq h 3 (by omega)
  by_cases d0 : v1 = 0
  · obtain ⟨v2, t2, s2, e2, h2, b2⟩ := l03Draw_eq h1
    obtain ⟨v3, t3, s3, e3, h3, b3⟩ := l03Draw_eq h2
    refine ⟨(dirV v2 v3).1, (dirV v2 v3).2.1, (dirV v2 v3).2.2.1, (dirV v2 v3).2.2.2.1, (dirV v2 v3).2.2.2.2.1, (dirV v2 v3).2.2.2.2.2, t3, s3, fun k hk => ?_, h3⟩
    obtain ⟨k, rfl⟩ : ∃ z, k = z + 1 := ⟨k - 1, by omega⟩
    unfold spec_l06Draw.f
    rw [e1]; simp only [Option.bind_some]
    rw [if_pos d0, e2]; simp only [Option.bind_some]
    rw [e3]; simp only [Option.bind_some]
    rw [spec_to_eq k v2 v3 (by omega) (by omega) (by omega) (by omega)]; rfl
  · obtain ⟨a, b, t2, s2, e2, h2⟩ := drawPart_eq h1
    obtain ⟨c, d, t3, s3, e3, h3⟩ := drawPart_eq h2
    obtain ⟨e, f, t4, s4, e4, h4⟩ := drawPart_eq h3
    refine ⟨a, b, c, d, e, f, t4, s4, fun k hk => ?_, h4⟩
    unfold spec_l06Draw.f
    rw [e1]; simp only [Option.bind_some]
    rw [if_neg d0, e2]; simp only [Option.bind_some]
    rw [e3]; simp only [Option.bind_some]
    rw [e4]; rfl

theorem drawAdd_eq (l : List Int) (hl : l.length ≤ 4096) (hb : ∀ x ∈ l, 0 ≤ x ∧ x ≤ 255) : ∃ a b c d e f a' b' c' d' e' f', ∀ k, 64 < k → spec_DrawAddVectors.f k l = some (a, b, c, d, e, f, a', b', c', d', e', f') := by
  obtain ⟨s, hs, hf⟩ := from_eq l hl hb
  obtain ⟨a, b, c, d, e, f, t1, s1, e1, h1⟩ := l06Draw_eq hs
  obtain ⟨a', b', c', d', e', f', t2, s2, e2, h2⟩ := l06Draw_eq h1
  refine ⟨a, b, c, d, e, f, a', b', c', d', e', f', fun k hk => ?_⟩
  unfold spec_DrawAddVectors.f spec_l06DrawTwo.f
  rw [hf k hk]; simp only [Option.bind_some]
  rw [e1 k (by omega)]; simp only [Option.bind_some]
  rw [e2 k (by omega)]; rfl

theorem drawScale_eq (l : List Int) (hl : l.length ≤ 4096) (hb : ∀ x ∈ l, 0 ≤ x ∧ x ≤ 255) : ∃ a b c d e f x y, ∀ k, 64 < k → spec_DrawScaleVector.f k l = some (a, b, c, d, e, f, x, y) := by
  obtain ⟨s, hs, hf⟩ := from_eq l hl hb
  obtain ⟨a, b, c, d, e, f, t1, s1, e1, h1⟩ := l06Draw_eq hs
  obtain ⟨x, y, t2, s2, e2, h2⟩ := drawPart_eq h1
  refine ⟨a, b, c, d, e, f, x, y, fun k hk => ?_⟩
  unfold spec_DrawScaleVector.f
  rw [hf k hk]; simp only [Option.bind_some]
  rw [e1 k (by omega)]; simp only [Option.bind_some]
  rw [e2]; rfl

theorem addV_comm (a b c d e f a' b' c' d' e' f' : Int) : addV a b c d e f a' b' c' d' e' f' = addV a' b' c' d' e' f' a b c d e f := by
  unfold addV
  rw [Int.add_comm a a', Int.add_comm b b', Int.add_comm c c', Int.add_comm d d', Int.add_comm e e', Int.add_comm f f']
  by_cases h : isVec a b c d e f ∧ isVec a' b' c' d' e' f'
  · rw [if_pos h, if_pos ⟨h.2, h.1⟩]
  · rw [if_neg h, if_neg (fun k => h ⟨k.2, k.1⟩)]
theorem one_mul (a b : Int) (h : a ≤ b) : mulLo a b 1000000 1000000 = a ∧ mulHi a b 1000000 1000000 = b := by
  unfold mulLo mulHi mn mx
  constructor
  · repeat' split
    all_goals omega
  · repeat' split
    all_goals omega
theorem scaV_one (a b c d e f : Int) (h : isVec a b c d e f) : scaV a b c d e f 1000000 1000000 = (a, b, c, d, e, f, 0) := by
  obtain ⟨h1, h2, h3⟩ := h
  have o1 := one_mul a b h1.2.2; have o2 := one_mul c d h2.2.2; have o3 := one_mul e f h3.2.2
  unfold scaV bnd
  rw [if_pos ⟨⟨h1, h2, h3⟩, by omega⟩, o1.1, o1.2, o2.1, o2.2, o3.1, o3.2, if_pos ⟨h1, h2, h3⟩]
theorem scaV_code (a b c d e f x y : Int) (h : (scaV a b c d e f x y).2.2.2.2.2.2 = 0) : isVec a b c d e f := by
  unfold scaV at h
  by_cases c : isVec a b c d e f ∧ prt x y
  · exact c.1
  · rw [if_neg c] at h; simp at h
theorem vs_end (k : Nat) (a b c d e f a' b' c' d' e' f' : Int) (R : Int × Int × Int × Int × Int × Int × Int) (hR : R = addV a b c d e f a' b' c' d' e' f') :
    (if R.2.2.2.2.2.2 = 0 then ((impl_AddVectors.f (k + 1) a' b' c' d' e' f' a b c d e f).bind fun bt => (if bt.2.2.2.2.2.2 = 0 then (some ((bt.1 == R.1 && (bt.2.1 == R.2.1)) && ((bt.2.2.1 == R.2.2.1 && (bt.2.2.2.1 == R.2.2.2.1)) && ((bt.2.2.2.2.1 == R.2.2.2.2.1 && (bt.2.2.2.2.2.1 == R.2.2.2.2.2.1)))))) else (some false))) else (some true)) = some true := by
  by_cases h : R.2.2.2.2.2.2 = 0
  · rw [if_pos h, impl_AddVectors_eq k, addV_comm, ← hR]; simp only [Option.bind_some, beq_self_eq_true, Bool.and_self]
    rw [if_pos h]
  · rw [if_neg h]
theorem FnVectorSums : laws_FnVectorSums.Pure := by
  intro l _ _ hw
  have hb := code_bytes hw
  by_cases hl : l.length ≤ 4096
  · obtain ⟨a, b, c, d, e, f, a', b', c', d', e', f', hA⟩ := drawAdd_eq l hl hb
    obtain ⟨g, i, j, m, n, o, x, y, hS⟩ := drawScale_eq l hl hb
    have hbig : decide ((l.length : Int) > 4096) = false := decide_eq_false (by omega)
    refine ⟨70, ?_⟩
    unfold laws_FnVectorSums.f
    rw [big_eq, hbig]; simp only [Option.bind_some]
    rw [if_neg (by decide), hA _ (by omega), hS _ (by omega)]; simp only [Option.bind_some]
    rw [impl_AddVectors_eq 69, spec_AddVectors_eq 69, impl_ScaleVector_eq 69, spec_ScaleVector_eq 69]
    obtain ⟨R, hR⟩ : ∃ R, R = addV a b c d e f a' b' c' d' e' f' := ⟨_, rfl⟩
    obtain ⟨Z, hZ⟩ : ∃ Z, Z = scaV g i j m n o x y := ⟨_, rfl⟩
    rw [← hR, ← hZ]
    simp only [Option.bind_some, if_true, beq_self_eq_true, Bool.not_true, Bool.or_self, Bool.false_eq_true, if_false]
    show laws_FnVectorSums.j0 (69 + 1) R.2.2.2.2.2.2 Z.2.2.2.2.2.2 false a b c d e f a' b' c' d' e' f' R.1 R.2.1 R.2.2.1 R.2.2.2.1 R.2.2.2.2.1 R.2.2.2.2.2.1 g i j m n o = some true
    simp only [laws_FnVectorSums.j0]
    rw [if_neg (by decide)]
    by_cases h : Z.2.2.2.2.2.2 = 0
    · have hv : isVec g i j m n o := scaV_code g i j m n o x y (by rw [← hZ]; exact h)
      rw [if_pos h, impl_ScaleVector_eq 68, scaV_one _ _ _ _ _ _ hv]; simp only [Option.bind_some, if_true, beq_self_eq_true, Bool.not_true, Bool.or_self]
      show laws_FnVectorSums.j1 (68 + 1) _ false _ _ _ _ _ _ _ _ _ _ _ _ _ _ _ _ _ _ = some true
      simp only [laws_FnVectorSums.j1]
      rw [if_neg (by decide)]
      exact vs_end 67 a b c d e f a' b' c' d' e' f' R hR
    · rw [if_neg h]
      exact vs_end 68 a b c d e f a' b' c' d' e' f' R hR
  · have hbig : decide ((l.length : Int) > 4096) = true := decide_eq_true (by omega)
    refine ⟨1, ?_⟩
    unfold laws_FnVectorSums.f
    rw [big_eq, hbig]; rfl

end Go.Proofs.Ytcnaocjhfgnphaa.Pure
