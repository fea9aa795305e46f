/- Proved: for every argument the law FnExactSineRange returns true. Conditions: none. -/
import Derived.Test.YtllapjemdegnjaaQFnExactSineRangex3
namespace Go.Proofs.Ytllapjemdegnjaa.Pure
open Go.RowKit Go.Proofs.Ytllapjemdegnjaa.PFnExactSineRange Go.Proofs.YtllapjemdegnjaaW.PrintWords Go.Proofs.YtllapjemdegnjaaW.PrintLast Go.Proofs.YtllapjemdegnjaaW.PrintMore
set_option linter.unusedVariables false
set_option linter.unusedSimpArgs false

theorem wid (n : Int) (h0 : -9223372036854775808 ≤ n) (h1 : n ≤ 9223372036854775807) : wrap64 n = n := by unfold wrap64; omega

theorem tmodP (a b : Int) (h : 0 ≤ a) : a.tmod b = a % b := Int.tmod_eq_emod_of_nonneg h

theorem tdivP (a b : Int) (h : 0 ≤ a) : a.tdiv b = a / b := Int.tdiv_eq_ediv_of_nonneg h

theorem ediv_bounds (a b : Int) (hb : 0 < b) : b * (a / b) + a % b = a ∧ 0 ≤ a % b ∧ a % b < b := ⟨Int.mul_ediv_add_emod a b, Int.emod_nonneg _ (by omega), Int.emod_lt_of_pos _ hb⟩

/-- Go's truncated quotient and remainder by a positive number, in Lean's floor form. -/
theorem tdiv_pos_spec (a b : Int) (hb : 0 < b) : a.tmod b = (if 0 ≤ a ∨ a % b = 0 then a % b else a % b - b) ∧ a.tdiv b = (if 0 ≤ a ∨ a % b = 0 then a / b else a / b + 1) := by
  have h1 : a.tdiv b = (if 0 ≤ a ∨ a % b = 0 then a / b else a / b + 1) := by
    rw [Int.tdiv_eq_ediv]
    have e : b.sign = 1 := Int.sign_eq_one_of_pos hb
    rw [e]
    have : (b ∣ a) ↔ a % b = 0 := Int.dvd_iff_emod_eq_zero
    by_cases h : 0 ≤ a ∨ a % b = 0
    · rw [if_pos h, if_pos (by rw [this]; exact h)]; omega
    · rw [if_neg h, if_neg (by rw [this]; exact h)]
  refine ⟨?_, h1⟩
  have h2 := Int.mul_tdiv_add_tmod a b
  have h3 := Int.mul_ediv_add_emod a b
  rw [h1] at h2
  by_cases h : 0 ≤ a ∨ a % b = 0
  · rw [if_pos h] at h2 ⊢; omega
  · rw [if_neg h] at h2 ⊢; rw [Int.mul_add] at h2; omega

theorem ediv_range (a b : Int) (hb : 0 < b) (A : Int) (h0 : -A ≤ a) (h1 : a ≤ A) (hA : 0 ≤ A) : -A ≤ a / b ∧ a / b ≤ A := by
  constructor
  · rw [Int.le_ediv_iff_mul_le hb]
    have : -A * b ≤ -A * 1 := by
      have : A * 1 ≤ A * b := Int.mul_le_mul_of_nonneg_left (by omega) hA
      rw [Int.neg_mul, Int.neg_mul]; omega
    omega
  · have : a / b ≤ A / b := Int.ediv_le_ediv hb h1
    have h2 : A / b ≤ A := Int.ediv_le_self _ hA
    omega

theorem impl_in_eq (n lo hi : Int) : impl_in.f n lo hi = some (decide (lo ≤ n ∧ n ≤ hi)) := by
  unfold impl_in.f; by_cases h : n ≥ lo
  · rw [if_pos h]; simp [show lo ≤ n from h]
  · rw [if_neg h]; simp [show ¬ lo ≤ n from h]

theorem spec_in_eq (n lo hi : Int) : spec_l01In.f n lo hi = some (decide (lo ≤ n ∧ n ≤ hi)) := by
  unfold spec_l01In.f; by_cases h : n ≥ lo
  · rw [if_pos h]; simp [show lo ≤ n from h]
  · rw [if_neg h]; simp [show ¬ lo ≤ n from h]

theorem impl_isValue_eq (n : Int) : impl_isValue.f n = some (decide (-1000000000000 ≤ n ∧ n ≤ 1000000000000)) := by
  unfold impl_isValue.f; rw [impl_in_eq]; rfl

theorem spec_is_eq (n : Int) : spec_l01Is.f n = some (decide (-1000000000000 ≤ n ∧ n ≤ 1000000000000)) := by
  unfold spec_l01Is.f; rw [spec_in_eq]; rfl

theorem impl_floor_pos (a b : Int) (hb : 0 < b) (h0 : -9223372036854775807 ≤ a) (h1 : a ≤ 9223372036854775807) : impl_floor.f a b = some (a / b) := by
  have hr := ediv_range a b hb 9223372036854775807 h0 h1 (by omega)
  obtain ⟨e1, e2⟩ := tdiv_pos_spec a b hb
  have hm := Int.emod_nonneg a (show b ≠ 0 by omega)
  have hm2 := Int.emod_lt_of_pos a hb
  unfold impl_floor.f
  rw [if_neg (by omega), e1, e2]
  by_cases h : 0 ≤ a ∨ a % b = 0
  · rw [if_pos h, if_pos h, wid _ (by omega) (by omega)]
    by_cases hz : a % b = 0
    · rw [if_pos hz]
    · rw [if_neg hz, if_neg]
      have : ¬ (a % b < 0) := by omega
      have : ¬ (b < 0) := by omega
      simp [*]
  · rw [if_neg h, if_neg h, if_neg (by omega), if_pos]
    · have : a / b + 1 ≤ 0 := by
        have := Int.ediv_neg_of_neg_of_pos (show a < 0 by omega) hb
        omega
      rw [wid (a / b + 1) (by omega) (by omega), wid _ (by omega) (by omega)]; congr 1; omega
    · have : (a % b - b < 0) := by omega
      have : ¬ (b < 0) := by omega
      simp [*]

theorem impl_floor_neg (a b : Int) (hb : b < 0) (h0 : -9223372036854775807 ≤ a) (h1 : a ≤ 9223372036854775807) : impl_floor.f a b = some ((-a) / (-b)) := by
  have hr := ediv_range (-a) (-b) (by omega) 9223372036854775807 (by omega) (by omega) (by omega)
  obtain ⟨e1, e2⟩ := tdiv_pos_spec (-a) (-b) (by omega)
  have k1 : a.tmod b = - (-a).tmod (-b) := by rw [Int.neg_tmod, Int.tmod_neg]; omega
  have k2 : a.tdiv b = (-a).tdiv (-b) := by rw [Int.neg_tdiv, Int.tdiv_neg]; omega
  have hm := Int.emod_nonneg (-a) (show -b ≠ 0 by omega)
  have hm2 := Int.emod_lt_of_pos (-a) (show 0 < -b by omega)
  unfold impl_floor.f
  rw [if_neg (by omega), k1, k2, e1, e2]
  by_cases h : 0 ≤ -a ∨ -a % -b = 0
  · rw [if_pos h, if_pos h, wid _ (by omega) (by omega)]
    by_cases hz : -a % -b = 0
    · rw [if_pos (by omega)]
    · rw [if_neg (by omega), if_neg]
      rw [decide_eq_true (show -(-a % -b) < 0 by omega), decide_eq_true hb]; decide
  · rw [if_neg h, if_neg h, if_neg (by omega), if_pos]
    · have : -a / -b + 1 ≤ 0 := by
        have := Int.ediv_neg_of_neg_of_pos (show -a < 0 by omega) (show 0 < -b by omega)
        omega
      rw [wid (-a / -b + 1) (by omega) (by omega), wid _ (by omega) (by omega)]; congr 1; omega
    · rw [decide_eq_false (show ¬ (-(-a % -b - -b) < 0) by omega), decide_eq_true hb]; decide

theorem impl_mod_pos (a b : Int) (hb : 0 < b) (hb1 : b ≤ 9223372036854775807) (h0 : -9223372036854775807 ≤ a) (h1 : a ≤ 9223372036854775807) (hab : -9223372036854775807 ≤ a - b) : impl_mod.f a b = some (a % b) := by
  obtain ⟨e, m0, m1⟩ := ediv_bounds a b hb
  unfold impl_mod.f
  rw [impl_floor_pos a b hb h0 h1]
  have e2 : a / b * b = a - a % b := by rw [Int.mul_comm]; omega
  simp only [Option.bind_some]
  rw [e2, wid (a - a % b) (by omega) (by omega), wid _ (by omega) (by omega)]; congr 1; omega

theorem spec_mod_pos (a b : Int) (hb : 0 < b) (hb1 : b ≤ 4611686018427387904) : spec_l01Mod.f a b = some (a % b) := by
  unfold spec_l01Mod.f
  rw [if_neg (by omega)]
  obtain ⟨e1, e2⟩ := tdiv_pos_spec a b hb
  have m0 := Int.emod_nonneg a (show b ≠ 0 by omega)
  have m1 := Int.emod_lt_of_pos a hb
  rw [e1]
  by_cases h : 0 ≤ a ∨ a % b = 0
  · rw [if_pos h, wid _ (by omega) (by omega), tmodP _ _ (by omega), Int.add_emod_right, Int.emod_emod]
  · rw [if_neg h, wid _ (by omega) (by omega), tmodP _ _ (by omega)]
    have : a % b - b + b = a % b := by omega
    rw [this, Int.emod_emod]

theorem spec_floor_pos (a b : Int) (hb : 0 < b) (h0 : -9223372036854775807 ≤ a) (h1 : a ≤ 9223372036854775807) : spec_l01Floor.f a b = some (a / b) := by
  have hr := ediv_range a b hb 9223372036854775807 h0 h1 (by omega)
  obtain ⟨e1, e2⟩ := tdiv_pos_spec a b hb
  have hm := Int.emod_nonneg a (show b ≠ 0 by omega)
  have hm2 := Int.emod_lt_of_pos a hb
  unfold spec_l01Floor.f
  rw [if_neg (by omega), if_neg (by omega), e1, e2]
  by_cases h : 0 ≤ a ∨ a % b = 0
  · rw [if_pos h, if_pos h, if_neg (by omega), wid _ (by omega) (by omega)]
  · rw [if_neg h, if_neg h, if_pos (by omega)]
    have : a / b + 1 ≤ 0 := by
      have := Int.ediv_neg_of_neg_of_pos (show a < 0 by omega) hb
      omega
    rw [wid (a / b + 1) (by omega) (by omega), wid _ (by omega) (by omega)]; congr 1; omega

theorem spec_floor_neg (a b : Int) (hb : b < 0) (hb1 : -9223372036854775807 ≤ b) (h0 : -9223372036854775807 ≤ a) (h1 : a ≤ 9223372036854775807) : spec_l01Floor.f a b = some ((-a) / (-b)) := by
  have h := spec_floor_pos (-a) (-b) (by omega) (by omega) (by omega)
  unfold spec_l01Floor.f at h ⊢
  rw [if_neg (by omega), if_neg (by omega)] at h
  rw [if_pos hb, wid (-a) (by omega) (by omega), wid (-b) (by omega) (by omega), if_neg (by omega)]; exact h

/-- The floor of a fraction, whatever the sign of its denominator. -/
def flr (a b : Int) : Int := if 0 < b then a / b else (-a) / (-b)

theorem impl_floor_eq (a b : Int) (hb : b ≠ 0) (h0 : -9223372036854775807 ≤ a) (h1 : a ≤ 9223372036854775807) : impl_floor.f a b = some (flr a b) := by
  unfold flr; by_cases h : 0 < b
  · rw [if_pos h, impl_floor_pos a b h h0 h1]
  · rw [if_neg h, impl_floor_neg a b (by omega) h0 h1]

theorem spec_floor_eq (a b : Int) (hb : b ≠ 0) (hb1 : -9223372036854775807 ≤ b) (h0 : -9223372036854775807 ≤ a) (h1 : a ≤ 9223372036854775807) : spec_l01Floor.f a b = some (flr a b) := by
  unfold flr; by_cases h : 0 < b
  · rw [if_pos h, spec_floor_pos a b h h0 h1]
  · rw [if_neg h, spec_floor_neg a b (by omega) hb1 h0 h1]

theorem flr_range (a b : Int) (hb : b ≠ 0) (A : Int) (h0 : -A ≤ a) (h1 : a ≤ A) (hA : 0 ≤ A) : -A ≤ flr a b ∧ flr a b ≤ A := by
  unfold flr; by_cases h : 0 < b
  · rw [if_pos h]; exact ediv_range a b h A h0 h1 hA
  · rw [if_neg h]; exact ediv_range (-a) (-b) (by omega) A (by omega) (by omega) hA

theorem impl_ceil_eq (a b : Int) (hb : b ≠ 0) (h0 : -9223372036854775807 ≤ a) (h1 : a ≤ 9223372036854775807) : impl_ceil.f a b = some (-(flr (-a) b)) := by
  have := flr_range (-a) b hb 9223372036854775807 (by omega) (by omega) (by omega)
  unfold impl_ceil.f; rw [wid (-a) (by omega) (by omega), impl_floor_eq (-a) b hb (by omega) (by omega)]; simp only [Option.bind_some]; rw [wid _ (by omega) (by omega)]

theorem spec_ceil_eq (a b : Int) (hb : b ≠ 0) (hb1 : -9223372036854775807 ≤ b) (h0 : -9223372036854775807 ≤ a) (h1 : a ≤ 9223372036854775807) : spec_l01Ceil.f a b = some (-(flr (-a) b)) := by
  have := flr_range (-a) b hb 9223372036854775807 (by omega) (by omega) (by omega)
  unfold spec_l01Ceil.f; rw [wid (-a) (by omega) (by omega), spec_floor_eq (-a) b hb hb1 (by omega) (by omega)]; simp only [Option.bind_some]; rw [wid _ (by omega) (by omega)]

theorem dec_and (p q : Prop) [Decidable p] [Decidable q] : (if decide p = true then some (decide q) else some false) = some (decide (p ∧ q)) := by
  by_cases h : p <;> simp [h]

theorem some_dec {p q : Prop} [Decidable p] [Decidable q] (h : p ↔ q) : some (decide p) = some (decide q) := by rw [decide_eq_decide.2 h]

theorem impl_isInterval_eq (a b : Int) : impl_IsInterval.f a b = some (decide (-1000000000000 ≤ a ∧ b ≤ 1000000000000 ∧ a ≤ b)) := by
  unfold impl_IsInterval.f
  rw [impl_isValue_eq, impl_isValue_eq]
  simp only [Option.bind_some, dec_and]
  apply some_dec; omega

theorem spec_isInterval_eq (a b : Int) : spec_IsInterval.f a b = some (decide (-1000000000000 ≤ a ∧ b ≤ 1000000000000 ∧ a ≤ b)) := by
  unfold spec_IsInterval.f
  rw [spec_is_eq, spec_is_eq]
  simp only [Option.bind_some, dec_and]
  apply some_dec; omega

theorem eqInterval_refl (a b : Int) : laws_eqInterval.f a b a b = some true := by
  unfold laws_eqInterval.f; rw [if_pos rfl, if_pos rfl]

theorem flr_pos (a b : Int) (h : 0 < b) : flr a b = a / b := by unfold flr; rw [if_pos h]

theorem impl_plain_eq (a : Int) (h0 : -9000000000000000000 ≤ a) (h1 : a ≤ 9000000000000000000) : impl_plain.f a = some (a % 1296000) := by
  unfold impl_plain.f; rw [impl_mod_pos a _ (by omega) (by omega) (by omega) (by omega) (by omega)]; rfl

theorem spec_plain_eq (a : Int) : spec_l03Plain.f a = some (a % 1296000) := by
  unfold spec_l03Plain.f; rw [spec_mod_pos a _ (by omega) (by omega)]; rfl

def tst (T Y d : Int) : Int := T * Y / 1000000000 / d

theorem tst_range (T Y d : Int) (h0 : 0 ≤ T) (h1 : 0 ≤ Y) (h2 : Y ≤ 1000000000) (hd : 0 < d) : 0 ≤ tst T Y d ∧ tst T Y d ≤ T := by
  unfold tst
  have m0 : 0 ≤ T * Y := Int.mul_nonneg h0 h1
  have m1 : T * Y ≤ T * 1000000000 := Int.mul_le_mul_of_nonneg_left h2 h0
  have q0 : 0 ≤ T * Y / 1000000000 := by omega
  have q1 : T * Y / 1000000000 ≤ T := by omega
  exact ⟨Int.ediv_nonneg q0 (by omega), Int.le_trans (Int.ediv_le_self d q0) q1⟩

theorem tstep (T Y d : Int) (h0 : 0 ≤ T) (h1 : T ≤ 1000000000) (h2 : 0 ≤ Y) (h3 : Y ≤ 1000000000) (hd : 0 < d) :
    wrap64 (Int.tdiv (wrap64 (Int.tdiv (wrap64 (T * Y)) 1000000000)) d) = tst T Y d := by
  have m0 : 0 ≤ T * Y := Int.mul_nonneg h0 h2
  have m1 : T * Y ≤ T * 1000000000 := Int.mul_le_mul_of_nonneg_left h3 h0
  obtain ⟨k0, k1⟩ := tst_range T Y d h0 h2 h3 hd
  rw [wid (T * Y) (by omega) (by omega), tdivP _ _ m0, wid (T * Y / 1000000000) (by omega) (by omega), tdivP _ _ (by omega)]
  exact wid _ (by unfold tst at k0; omega) (by unfold tst at k1; omega)

def pX (r : Int) : Int := r * 48481368 / 10000

def pY (r : Int) : Int := pX r * pX r / 1000000000

def pT3 (r : Int) : Int := tst (pX r) (pY r) 6

def pT5 (r : Int) : Int := tst (pT3 r) (pY r) 20

def pT7 (r : Int) : Int := tst (pT5 r) (pY r) 42

def pT9 (r : Int) : Int := tst (pT7 r) (pY r) 72

def pC2 (r : Int) : Int := pY r / 2

def pC4 (r : Int) : Int := tst (pC2 r) (pY r) 12

def pC6 (r : Int) : Int := tst (pC4 r) (pY r) 30

def pC8 (r : Int) : Int := tst (pC6 r) (pY r) 56

def pC10 (r : Int) : Int := tst (pC8 r) (pY r) 90

def polyP (r : Int) : Int := pX r - pT3 r + pT5 r - pT7 r + pT9 r

def polyQ (r : Int) : Int := 1000000000 - pC2 r + pC4 r - pC6 r + pC8 r - pC10 r

theorem pX_range (r : Int) (h0 : 0 ≤ r) (h1 : r ≤ 162000) : 0 ≤ pX r ∧ pX r ≤ 785398162 := by unfold pX; omega

theorem pY_range (r : Int) (h0 : 0 ≤ r) (h1 : r ≤ 162000) : 0 ≤ pY r ∧ pY r ≤ 785398162 := by
  obtain ⟨a, b⟩ := pX_range r h0 h1
  have m0 : 0 ≤ pX r * pX r := Int.mul_nonneg a a
  have m1 : pX r * pX r ≤ pX r * 785398162 := Int.mul_le_mul_of_nonneg_left b a
  unfold pY; omega

theorem pT_range (r : Int) (h0 : 0 ≤ r) (h1 : r ≤ 162000) : (0 ≤ pT3 r ∧ pT3 r ≤ pX r) ∧ (0 ≤ pT5 r ∧ pT5 r ≤ pT3 r) ∧ (0 ≤ pT7 r ∧ pT7 r ≤ pT5 r) ∧ (0 ≤ pT9 r ∧ pT9 r ≤ pT7 r) := by
  have a := pX_range r h0 h1
  have y := pY_range r h0 h1
  have t3 : 0 ≤ pT3 r ∧ pT3 r ≤ pX r := tst_range _ _ _ (by omega) (by omega) (by omega) (by omega)
  have t5 : 0 ≤ pT5 r ∧ pT5 r ≤ pT3 r := tst_range _ _ _ (by omega) (by omega) (by omega) (by omega)
  have t7 : 0 ≤ pT7 r ∧ pT7 r ≤ pT5 r := tst_range _ _ _ (by omega) (by omega) (by omega) (by omega)
  have t9 : 0 ≤ pT9 r ∧ pT9 r ≤ pT7 r := tst_range _ _ _ (by omega) (by omega) (by omega) (by omega)
  exact ⟨t3, t5, t7, t9⟩

theorem pC_range (r : Int) (h0 : 0 ≤ r) (h1 : r ≤ 162000) : (0 ≤ pC2 r ∧ pC2 r ≤ 392699081) ∧ (0 ≤ pC4 r ∧ pC4 r ≤ pC2 r) ∧ (0 ≤ pC6 r ∧ pC6 r ≤ pC4 r) ∧ (0 ≤ pC8 r ∧ pC8 r ≤ pC6 r) ∧ (0 ≤ pC10 r ∧ pC10 r ≤ pC8 r) := by
  have y := pY_range r h0 h1
  have c2 : 0 ≤ pC2 r ∧ pC2 r ≤ 392699081 := by unfold pC2; omega
  have c4 : 0 ≤ pC4 r ∧ pC4 r ≤ pC2 r := tst_range _ _ _ (by omega) (by omega) (by omega) (by omega)
  have c6 : 0 ≤ pC6 r ∧ pC6 r ≤ pC4 r := tst_range _ _ _ (by omega) (by omega) (by omega) (by omega)
  have c8 : 0 ≤ pC8 r ∧ pC8 r ≤ pC6 r := tst_range _ _ _ (by omega) (by omega) (by omega) (by omega)
  have c10 : 0 ≤ pC10 r ∧ pC10 r ≤ pC8 r := tst_range _ _ _ (by omega) (by omega) (by omega) (by omega)
  exact ⟨c2, c4, c6, c8, c10⟩

theorem polyP_range (r : Int) (h0 : 0 ≤ r) (h1 : r ≤ 162000) : -2000000000 ≤ polyP r ∧ polyP r ≤ 2500000000 := by
  have a := pX_range r h0 h1; have t := pT_range r h0 h1
  unfold polyP; omega

theorem polyQ_range (r : Int) (h0 : 0 ≤ r) (h1 : r ≤ 162000) : -2000000000 ≤ polyQ r ∧ polyQ r ≤ 2500000000 := by
  have t := pC_range r h0 h1
  unfold polyQ; omega

theorem spec_arc_eq (r : Int) (h0 : 0 ≤ r) (h1 : r ≤ 162000) : spec_l04Arc.f r = some (pX r, pY r) := by
  obtain ⟨a, b⟩ := pX_range r h0 h1
  have m0 : 0 ≤ pX r * pX r := Int.mul_nonneg a a
  have m1 : pX r * pX r ≤ pX r * 785398162 := Int.mul_le_mul_of_nonneg_left b a
  have e : wrap64 (Int.tdiv (wrap64 (r * 48481368)) 10000) = pX r := by
    rw [wid (r * 48481368) (by omega) (by omega), tdivP _ _ (by omega)]; exact wid (pX r) (by omega) (by omega)
  have e2 : wrap64 (Int.tdiv (wrap64 (pX r * pX r)) 1000000000) = pY r := by
    have y := pY_range r h0 h1
    rw [wid (pX r * pX r) (by omega) (by omega), tdivP _ _ m0]; exact wid (pY r) (by omega) (by omega)
  unfold spec_l04Arc.f
  rw [e, e2]

theorem spec_P_eq (r : Int) (h0 : 0 ≤ r) (h1 : r ≤ 162000) : spec_l04P.f r = some (polyP r) := by
  have a := pX_range r h0 h1; have y := pY_range r h0 h1; obtain ⟨t3, t5, t7, t9⟩ := pT_range r h0 h1
  unfold spec_l04P.f
  rw [spec_arc_eq r h0 h1]
  simp only [Option.bind_some]
  rw [tstep (pX r) (pY r) 6 (by omega) (by omega) (by omega) (by omega) (by omega), show tst (pX r) (pY r) 6 = pT3 r from rfl,
    tstep (pT3 r) (pY r) 20 (by omega) (by omega) (by omega) (by omega) (by omega), show tst (pT3 r) (pY r) 20 = pT5 r from rfl,
    tstep (pT5 r) (pY r) 42 (by omega) (by omega) (by omega) (by omega) (by omega), show tst (pT5 r) (pY r) 42 = pT7 r from rfl,
    tstep (pT7 r) (pY r) 72 (by omega) (by omega) (by omega) (by omega) (by omega), show tst (pT7 r) (pY r) 72 = pT9 r from rfl,
    wid (pX r - pT3 r) (by omega) (by omega), wid (pX r - pT3 r + pT5 r) (by omega) (by omega), wid (pX r - pT3 r + pT5 r - pT7 r) (by omega) (by omega), wid (pX r - pT3 r + pT5 r - pT7 r + pT9 r) (by omega) (by omega)]
  rfl

theorem spec_Q_eq (r : Int) (h0 : 0 ≤ r) (h1 : r ≤ 162000) : spec_l04Q.f r = some (polyQ r) := by
  have y := pY_range r h0 h1; obtain ⟨c2, c4, c6, c8, c10⟩ := pC_range r h0 h1
  have e2 : wrap64 (Int.tdiv (pY r) 2) = pC2 r := by rw [tdivP _ _ (by omega)]; exact wid (pC2 r) (by omega) (by omega)
  unfold spec_l04Q.f
  rw [spec_arc_eq r h0 h1]
  simp only [Option.bind_some]
  rw [e2, tstep (pC2 r) (pY r) 12 (by omega) (by omega) (by omega) (by omega) (by omega), show tst (pC2 r) (pY r) 12 = pC4 r from rfl,
    tstep (pC4 r) (pY r) 30 (by omega) (by omega) (by omega) (by omega) (by omega), show tst (pC4 r) (pY r) 30 = pC6 r from rfl,
    tstep (pC6 r) (pY r) 56 (by omega) (by omega) (by omega) (by omega) (by omega), show tst (pC6 r) (pY r) 56 = pC8 r from rfl,
    tstep (pC8 r) (pY r) 90 (by omega) (by omega) (by omega) (by omega) (by omega), show tst (pC8 r) (pY r) 90 = pC10 r from rfl,
    wid (1000000000 - pC2 r) (by omega) (by omega), wid (1000000000 - pC2 r + pC4 r) (by omega) (by omega), wid (1000000000 - pC2 r + pC4 r - pC6 r) (by omega) (by omega), wid (1000000000 - pC2 r + pC4 r - pC6 r + pC8 r) (by omega) (by omega), wid (1000000000 - pC2 r + pC4 r - pC6 r + pC8 r - pC10 r) (by omega) (by omega)]
  rfl

theorem impl_poly_eq (r : Int) (h0 : 0 ≤ r) (h1 : r ≤ 162000) : impl_polynomials.f r = some (polyP r, polyQ r) := by
  obtain ⟨a, b⟩ := pX_range r h0 h1
  have y := pY_range r h0 h1; obtain ⟨t3, t5, t7, t9⟩ := pT_range r h0 h1; obtain ⟨c2, c4, c6, c8, c10⟩ := pC_range r h0 h1
  have m0 : 0 ≤ pX r * pX r := Int.mul_nonneg a a
  have m1 : pX r * pX r ≤ pX r * 785398162 := Int.mul_le_mul_of_nonneg_left b a
  have e : wrap64 (Int.tdiv (wrap64 (r * 48481368)) 10000) = pX r := by
    rw [wid (r * 48481368) (by omega) (by omega), tdivP _ _ (by omega)]; exact wid (pX r) (by omega) (by omega)
  have e1 : wrap64 (Int.tdiv (wrap64 (pX r * pX r)) 1000000000) = pY r := by
    rw [wid (pX r * pX r) (by omega) (by omega), tdivP _ _ m0]; exact wid (pY r) (by omega) (by omega)
  have e2 : wrap64 (Int.tdiv (pY r) 2) = pC2 r := by rw [tdivP _ _ (by omega)]; exact wid (pC2 r) (by omega) (by omega)
  unfold impl_polynomials.f
  rw [e, e1, e2, tstep (pX r) (pY r) 6 (by omega) (by omega) (by omega) (by omega) (by omega), show tst (pX r) (pY r) 6 = pT3 r from rfl,
    tstep (pT3 r) (pY r) 20 (by omega) (by omega) (by omega) (by omega) (by omega), show tst (pT3 r) (pY r) 20 = pT5 r from rfl,
    tstep (pT5 r) (pY r) 42 (by omega) (by omega) (by omega) (by omega) (by omega), show tst (pT5 r) (pY r) 42 = pT7 r from rfl,
    tstep (pT7 r) (pY r) 72 (by omega) (by omega) (by omega) (by omega) (by omega), show tst (pT7 r) (pY r) 72 = pT9 r from rfl,
    wid (pX r - pT3 r) (by omega) (by omega), wid (pX r - pT3 r + pT5 r) (by omega) (by omega), wid (pX r - pT3 r + pT5 r - pT7 r) (by omega) (by omega), wid (pX r - pT3 r + pT5 r - pT7 r + pT9 r) (by omega) (by omega),
    tstep (pC2 r) (pY r) 12 (by omega) (by omega) (by omega) (by omega) (by omega), show tst (pC2 r) (pY r) 12 = pC4 r from rfl,
    tstep (pC4 r) (pY r) 30 (by omega) (by omega) (by omega) (by omega) (by omega), show tst (pC4 r) (pY r) 30 = pC6 r from rfl,
    tstep (pC6 r) (pY r) 56 (by omega) (by omega) (by omega) (by omega) (by omega), show tst (pC6 r) (pY r) 56 = pC8 r from rfl,
    tstep (pC8 r) (pY r) 90 (by omega) (by omega) (by omega) (by omega) (by omega), show tst (pC8 r) (pY r) 90 = pC10 r from rfl,
    wid (1000000000 - pC2 r) (by omega) (by omega), wid (1000000000 - pC2 r + pC4 r) (by omega) (by omega), wid (1000000000 - pC2 r + pC4 r - pC6 r) (by omega) (by omega), wid (1000000000 - pC2 r + pC4 r - pC6 r + pC8 r) (by omega) (by omega), wid (1000000000 - pC2 r + pC4 r - pC6 r + pC8 r - pC10 r) (by omega) (by omega)]
  rfl

/-- The sine in nano units, in the first half turn's quarters: q the quarter, r the angle within it. -/
def qsin (q r : Int) : Int := if r ≤ 162000 then (if q < 2 then polyP r else -(polyP r)) else (if q < 2 then polyQ (324000 - r) else -(polyQ (324000 - r)))

def nsin (a : Int) : Int := if a % 1296000 / 324000 % 2 = 1 then qsin (a % 1296000 / 324000) (324000 - a % 1296000 % 324000) else qsin (a % 1296000 / 324000) (a % 1296000 % 324000)

theorem qsin_range (q r : Int) (h0 : 0 ≤ r) (h1 : r ≤ 324000) : -2500000000 ≤ qsin q r ∧ qsin q r ≤ 2500000000 := by
  unfold qsin
  by_cases h : r ≤ 162000
  · have := polyP_range r h0 h
    rw [if_pos h]; by_cases c : q < 2
    · rw [if_pos c]; omega
    · rw [if_neg c]; omega
  · have := polyQ_range (324000 - r) (by omega) (by omega)
    rw [if_neg h]; by_cases c : q < 2
    · rw [if_pos c]; omega
    · rw [if_neg c]; omega

theorem nsin_range (a : Int) : -2500000000 ≤ nsin a ∧ nsin a ≤ 2500000000 := by
  unfold nsin
  by_cases h : a % 1296000 / 324000 % 2 = 1
  · rw [if_pos h]; exact qsin_range _ _ (by omega) (by omega)
  · rw [if_neg h]; exact qsin_range _ _ (by omega) (by omega)

theorem impl_nanoSine_j (k : Nat) (q r : Int) (h0 : 0 ≤ r) (h1 : r ≤ 324000) : impl_nanoSine.j0 (k + 1) q r = some (qsin q r) := by
  simp only [impl_nanoSine.j0]; unfold qsin
  by_cases h : r ≤ 162000
  · have := polyP_range r h0 h
    rw [if_pos h, if_pos h, impl_poly_eq r h0 h]; simp only [Option.bind_some]
    rw [wid (-polyP r) (by omega) (by omega), apply_ite some]
  · have := polyQ_range (324000 - r) (by omega) (by omega)
    rw [if_neg h, if_neg h, wid (324000 - r) (by omega) (by omega), impl_poly_eq (324000 - r) (by omega) (by omega)]; simp only [Option.bind_some]
    rw [wid (-polyQ (324000 - r)) (by omega) (by omega), apply_ite some]

theorem spec_l04Sine_j (k : Nat) (q r : Int) (h0 : 0 ≤ r) (h1 : r ≤ 324000) : spec_l04Sine.j0 (k + 1) q r = some (qsin q r) := by
  simp only [spec_l04Sine.j0]; unfold qsin
  by_cases h : r ≤ 162000
  · have := polyP_range r h0 h
    rw [if_pos h, if_pos h, spec_P_eq r h0 h]; simp only [Option.bind_some]
    rw [wid (-polyP r) (by omega) (by omega)]
    by_cases c : q < 2
    · rw [if_pos c, if_neg (by omega)]
    · rw [if_neg c, if_pos (by omega)]
  · have := polyQ_range (324000 - r) (by omega) (by omega)
    rw [if_neg h, if_neg h, wid (324000 - r) (by omega) (by omega), spec_Q_eq (324000 - r) (by omega) (by omega)]; simp only [Option.bind_some]
    rw [wid (-polyQ (324000 - r)) (by omega) (by omega)]
    by_cases c : q < 2
    · rw [if_pos c, if_neg (by omega)]
    · rw [if_neg c, if_pos (by omega)]

theorem impl_nanoSine_eq (k : Nat) (a : Int) (h0 : -9000000000000000000 ≤ a) (h1 : a ≤ 9000000000000000000) : impl_nanoSine.f (k + 1) a = some (nsin a) := by
  unfold impl_nanoSine.f nsin
  rw [impl_plain_eq a h0 h1]; simp only [Option.bind_some]
  rw [tdivP _ _ (show 0 ≤ a % 1296000 by omega), tmodP _ _ (show 0 ≤ a % 1296000 by omega), wid (a % 1296000 / 324000) (by omega) (by omega), tmodP _ _ (show 0 ≤ a % 1296000 / 324000 by omega), wid (324000 - a % 1296000 % 324000) (by omega) (by omega),
    impl_nanoSine_j k _ _ (by omega) (by omega), impl_nanoSine_j k _ _ (by omega) (by omega), apply_ite some]

theorem spec_nanoSine_eq (k : Nat) (a : Int) : spec_l04Sine.f (k + 1) a = some (nsin a) := by
  unfold spec_l04Sine.f nsin
  rw [spec_plain_eq a]; simp only [Option.bind_some]
  rw [tdivP _ _ (show 0 ≤ a % 1296000 by omega), tmodP _ _ (show 0 ≤ a % 1296000 by omega), wid (a % 1296000 / 324000) (by omega) (by omega), tmodP _ _ (show 0 ≤ a % 1296000 / 324000 by omega), wid (324000 - a % 1296000 % 324000) (by omega) (by omega),
    spec_l04Sine_j k _ _ (by omega) (by omega), spec_l04Sine_j k _ _ (by omega) (by omega), apply_ite some]

def sLo (n : Int) : Int := (n - 60) / 1000

def sHi (n : Int) : Int := -((-(n + 60)) / 1000)

theorem spec_interval_eq (n : Int) (h0 : -4000000000000000000 ≤ n) (h1 : n ≤ 4000000000000000000) : spec_l04Interval.f n = some (sLo n, sHi n) := by
  unfold spec_l04Interval.f sLo sHi
  rw [wid (n - 60) (by omega) (by omega), wid (n + 60) (by omega) (by omega), spec_floor_pos _ _ (by omega) (by omega) (by omega), spec_ceil_eq _ _ (by omega) (by omega) (by omega) (by omega), flr_pos _ _ (by omega)]; rfl

theorem impl_sine_eq (k : Nat) (a : Int) (h0 : -9000000000000000000 ≤ a) (h1 : a ≤ 9000000000000000000) : impl_sine.f (k + 1) a = some (sLo (nsin a), sHi (nsin a)) := by
  have := nsin_range a
  unfold impl_sine.f sLo sHi
  rw [impl_nanoSine_eq k a h0 h1]; simp only [Option.bind_some]
  rw [wid (nsin a - 60) (by omega) (by omega), wid (nsin a + 60) (by omega) (by omega), impl_floor_pos _ _ (by omega) (by omega) (by omega), impl_ceil_eq _ _ (by omega) (by omega) (by omega), flr_pos _ _ (by omega)]; rfl

theorem spec_sin_eq (k : Nat) (a : Int) : spec_l04Sin.f (k + 1) a = some (sLo (nsin a), sHi (nsin a)) := by
  have := nsin_range a
  unfold spec_l04Sin.f
  rw [spec_nanoSine_eq k a]; simp only [Option.bind_some]
  rw [spec_interval_eq _ (by omega) (by omega)]; rfl

def rngJ (p1 : Prop) [Decidable p1] (h : Int × Int) : Int × Int := if p1 then (mn h.1 (-1000000), mx h.2 (-1000000)) else h

def rngV (a b : Int) : Int × Int := rngJ ((-324000 - a) % 1296000 ≤ b - a) (if (324000 - a) % 1296000 ≤ b - a then (mn (mn (sLo (nsin a)) (sLo (nsin b))) 1000000, mx (mx (sHi (nsin a)) (sHi (nsin b))) 1000000) else (mn (sLo (nsin a)) (sLo (nsin b)), mx (sHi (nsin a)) (sHi (nsin b))))

theorem spec_range_eq (k : Nat) (a b : Int) (h0 : -3000000000000 ≤ a) (h1 : a ≤ 3000000000000) (h2 : -3000000000000 ≤ b) (h3 : b ≤ 3000000000000) : spec_l04Range.f (k + 1) a b = some (rngV a b) := by
  unfold spec_l04Range.f rngV rngJ
  rw [spec_sin_eq, spec_sin_eq]
  simp only [Option.bind_some, spec_l02Hull.f, spec_plain_eq, spec_l04Range.j0]
  rw [wid (324000 - a) (by omega) (by omega), wid (-324000 - a) (by omega) (by omega), wid (b - a) (by omega) (by omega)]
  by_cases c1 : (324000 - a) % 1296000 ≤ b - a <;> by_cases c2 : (-324000 - a) % 1296000 ≤ b - a <;> simp [c1, c2]

theorem impl_range_eq (k : Nat) (a b : Int) (h0 : -3000000000000 ≤ a) (h1 : a ≤ 3000000000000) (h2 : -3000000000000 ≤ b) (h3 : b ≤ 3000000000000) : impl_sineRange.f (k + 1) a b = some (rngV a b) := by
  unfold impl_sineRange.f rngV rngJ
  rw [impl_sine_eq k a (by omega) (by omega), impl_sine_eq k b (by omega) (by omega)]
  simp only [Option.bind_some, impl_Interval_hull.f]
  rw [wid (324000 - a) (by omega) (by omega), wid (-324000 - a) (by omega) (by omega), impl_plain_eq _ (by omega) (by omega), impl_plain_eq _ (by omega) (by omega)]
  simp only [Option.bind_some, impl_sineRange.j0]
  rw [wid (a + (324000 - a) % 1296000) (by omega) (by omega), wid (a + (-324000 - a) % 1296000) (by omega) (by omega)]
  have e1 : (a + (324000 - a) % 1296000 ≤ b) = ((324000 - a) % 1296000 ≤ b - a) := propext ⟨fun h => by omega, fun h => by omega⟩
  have e2 : (a + (-324000 - a) % 1296000 ≤ b) = ((-324000 - a) % 1296000 ≤ b - a) := propext ⟨fun h => by omega, fun h => by omega⟩
  simp only [e1, e2]
  by_cases c1 : (324000 - a) % 1296000 ≤ b - a <;> by_cases c2 : (-324000 - a) % 1296000 ≤ b - a <;> simp [c1, c2]

def rcode (a b : Int) : Int := if -1000000000000 ≤ a ∧ b ≤ 1000000000000 ∧ a ≤ b then (if b - a > 1296000 then 2 else 0) else 1

theorem spec_rcode_eq (a b : Int) : spec_l04Code.f a b = some (rcode a b) := by
  unfold spec_l04Code.f rcode
  rw [spec_isInterval_eq]
  by_cases c : -1000000000000 ≤ a ∧ b ≤ 1000000000000 ∧ a ≤ b
  · simp only [Option.bind_some, if_pos (decide_eq_true c), if_pos c]
    rw [wid (b - a) (by omega) (by omega)]
    split <;> rfl
  · simp [c]

theorem impl_rcode_eq (a b : Int) : impl_angles.f a b = some (rcode a b) := by
  unfold impl_angles.f rcode
  rw [impl_isInterval_eq]
  by_cases c : -1000000000000 ≤ a ∧ b ≤ 1000000000000 ∧ a ≤ b
  · simp only [Option.bind_some, if_pos (decide_eq_true c), if_pos c]
    rw [wid (b - a) (by omega) (by omega)]
    split <;> rfl
  · simp [c]

theorem rcode_zero {a b : Int} (h : rcode a b = 0) : -1000000000000 ≤ a ∧ b ≤ 1000000000000 ∧ a ≤ b := by
  unfold rcode at h
  by_cases c : -1000000000000 ≤ a ∧ b ≤ 1000000000000 ∧ a ≤ b
  · exact c
  · rw [if_neg c] at h; omega

theorem SineRange_both (k : Nat) (a b : Int) : ∃ x y c, spec_SineRange.f (k + 1) a b = some (x, y, c) ∧ impl_SineRange.f (k + 1) a b = some (x, y, c) := by
  unfold spec_SineRange.f impl_SineRange.f
  rw [spec_rcode_eq, impl_rcode_eq]
  by_cases c : rcode a b = 0
  · have := rcode_zero c
    simp only [Option.bind_some, if_pos c]
    rw [spec_range_eq k a b (by omega) (by omega) (by omega) (by omega), impl_range_eq k a b (by omega) (by omega) (by omega) (by omega)]
    exact ⟨_, _, _, rfl, rfl⟩
  · simp only [Option.bind_some, if_neg c]
    exact ⟨_, _, _, rfl, rfl⟩

theorem FnExactSineRange (a b : Int) (h0 : (Lit.int .i64 a).wf = true) (h1 : (Lit.int .i64 b).wf = true) : ∃ k, laws_FnExactSineRange.f k a b = some true := by
  refine ⟨1, ?_⟩
  unfold laws_FnExactSineRange.f laws_toInterval.f
  obtain ⟨x, y, c, h1, h2⟩ := SineRange_both 0 a b
  simp only [Option.bind_some]
  rw [h1, h2]
  simp only [Option.bind_some, eqInterval_refl, if_true]

end Go.Proofs.Ytllapjemdegnjaa.Pure
