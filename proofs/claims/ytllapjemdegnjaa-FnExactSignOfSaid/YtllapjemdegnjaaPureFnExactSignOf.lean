/- Proved: for every argument the law FnExactSignOf returns true. Conditions: none. -/
import Derived.Test.YtllapjemdegnjaaQFnExactSignOfx2
namespace Go.Proofs.Ytllapjemdegnjaa.Pure
open Go.RowKit Go.Proofs.Ytllapjemdegnjaa.PFnExactSignOf Go.Proofs.YtllapjemdegnjaaW.PrintWords Go.Proofs.YtllapjemdegnjaaW.PrintLast Go.Proofs.YtllapjemdegnjaaW.PrintMore
set_option linter.unusedVariables false
set_option linter.unusedSimpArgs false

theorem wid (n : Int) (h0 : -9223372036854775808 ≤ n) (h1 : n ≤ 9223372036854775807) : wrap64 n = n := by unfold wrap64; omega

theorem tmodP (a b : Int) (h : 0 ≤ a) : a.tmod b = a % b := Int.tmod_eq_emod_of_nonneg h

theorem tdivP (a b : Int) (h : 0 ≤ a) : a.tdiv b = a / b := Int.tdiv_eq_ediv_of_nonneg h

theorem ediv_bounds (a b : Int) (hb : 0 < b) : b * (a / b) + a % b = a ∧ 0 ≤ a % b ∧ a % b < b := ⟨Int.mul_ediv_add_emod a b, Int.emod_nonneg _ (by omega), Int.emod_lt_of_pos _ hb⟩

/-- Go's truncated quotient and remainder by a positive number, in Lean's floor form. -/
theorem tdiv_pos_spec (a b : Int) (hb : 0 < b) : a.tmod b = (if 0 ≤ a ∨ a % b = 0 then a % b else a % b - b) ∧ a.tdiv b = (if 0 ≤ a ∨ a % b = 0 then a / b else a / b + 1) := by
  have h1 : a.tdiv b = (if 0 ≤ a ∨ a % b = 0 then a / b else a / b + 1) := by
    rw [Int.tdiv_eq_ediv]
    have e : b.sign = 1 := Int.sign_eq_one_of_pos hb
    rw [e]
    have : (b ∣ a) ↔ a % b = 0 := Int.dvd_iff_emod_eq_zero
    by_cases h : 0 ≤ a ∨ a % b = 0
    · rw [if_pos h, if_pos (by rw [this]; exact h)]; omega
    · rw [if_neg h, if_neg (by rw [this]; exact h)]
  refine ⟨?_, h1⟩
  have h2 := Int.mul_tdiv_add_tmod a b
  have h3 := Int.mul_ediv_add_emod a b
  rw [h1] at h2
  by_cases h : 0 ≤ a ∨ a % b = 0
  · rw [if_pos h] at h2 ⊢; omega
  · rw [if_neg h] at h2 ⊢; rw [Int.mul_add] at h2; omega

theorem ediv_range (a b : Int) (hb : 0 < b) (A : Int) (h0 : -A ≤ a) (h1 : a ≤ A) (hA : 0 ≤ A) : -A ≤ a / b ∧ a / b ≤ A := by
  constructor
  · rw [Int.le_ediv_iff_mul_le hb]
    have : -A * b ≤ -A * 1 := by
      have : A * 1 ≤ A * b := Int.mul_le_mul_of_nonneg_left (by omega) hA
      rw [Int.neg_mul, Int.neg_mul]; omega
    omega
  · have : a / b ≤ A / b := Int.ediv_le_ediv hb h1
    have h2 : A / b ≤ A := Int.ediv_le_self _ hA
    omega

theorem impl_in_eq (n lo hi : Int) : impl_in.f n lo hi = some (decide (lo ≤ n ∧ n ≤ hi)) := by
  unfold impl_in.f; by_cases h : n ≥ lo
  · rw [if_pos h]; simp [show lo ≤ n from h]
  · rw [if_neg h]; simp [show ¬ lo ≤ n from h]

theorem spec_in_eq (n lo hi : Int) : spec_l01In.f n lo hi = some (decide (lo ≤ n ∧ n ≤ hi)) := by
  unfold spec_l01In.f; by_cases h : n ≥ lo
  · rw [if_pos h]; simp [show lo ≤ n from h]
  · rw [if_neg h]; simp [show ¬ lo ≤ n from h]

theorem impl_floor_pos (a b : Int) (hb : 0 < b) (h0 : -9223372036854775807 ≤ a) (h1 : a ≤ 9223372036854775807) : impl_floor.f a b = some (a / b) := by
  have hr := ediv_range a b hb 9223372036854775807 h0 h1 (by omega)
  obtain ⟨e1, e2⟩ := tdiv_pos_spec a b hb
  have hm := Int.emod_nonneg a (show b ≠ 0 by omega)
  have hm2 := Int.emod_lt_of_pos a hb
  unfold impl_floor.f
  rw [if_neg (by omega), e1, e2]
  by_cases h : 0 ≤ a ∨ a % b = 0
  · rw [if_pos h, if_pos h, wid _ (by omega) (by omega)]
    by_cases hz : a % b = 0
    · rw [if_pos hz]
    · rw [if_neg hz, if_neg]
      have : ¬ (a % b < 0) := by omega
      have : ¬ (b < 0) := by omega
      simp [*]
  · rw [if_neg h, if_neg h, if_neg (by omega), if_pos]
    · have : a / b + 1 ≤ 0 := by
        have := Int.ediv_neg_of_neg_of_pos (show a < 0 by omega) hb
        omega
      rw [wid (a / b + 1) (by omega) (by omega), wid _ (by omega) (by omega)]; congr 1; omega
    · have : (a % b - b < 0) := by omega
      have : ¬ (b < 0) := by omega
      simp [*]

theorem impl_mod_pos (a b : Int) (hb : 0 < b) (hb1 : b ≤ 9223372036854775807) (h0 : -9223372036854775807 ≤ a) (h1 : a ≤ 9223372036854775807) (hab : -9223372036854775807 ≤ a - b) : impl_mod.f a b = some (a % b) := by
  obtain ⟨e, m0, m1⟩ := ediv_bounds a b hb
  unfold impl_mod.f
  rw [impl_floor_pos a b hb h0 h1]
  have e2 : a / b * b = a - a % b := by rw [Int.mul_comm]; omega
  simp only [Option.bind_some]
  rw [e2, wid (a - a % b) (by omega) (by omega), wid _ (by omega) (by omega)]; congr 1; omega

theorem spec_mod_pos (a b : Int) (hb : 0 < b) (hb1 : b ≤ 4611686018427387904) : spec_l01Mod.f a b = some (a % b) := by
  unfold spec_l01Mod.f
  rw [if_neg (by omega)]
  obtain ⟨e1, e2⟩ := tdiv_pos_spec a b hb
  have m0 := Int.emod_nonneg a (show b ≠ 0 by omega)
  have m1 := Int.emod_lt_of_pos a hb
  rw [e1]
  by_cases h : 0 ≤ a ∨ a % b = 0
  · rw [if_pos h, wid _ (by omega) (by omega), tmodP _ _ (by omega), Int.add_emod_right, Int.emod_emod]
  · rw [if_neg h, wid _ (by omega) (by omega), tmodP _ _ (by omega)]
    have : a % b - b + b = a % b := by omega
    rw [this, Int.emod_emod]

theorem spec_floor_pos (a b : Int) (hb : 0 < b) (h0 : -9223372036854775807 ≤ a) (h1 : a ≤ 9223372036854775807) : spec_l01Floor.f a b = some (a / b) := by
  have hr := ediv_range a b hb 9223372036854775807 h0 h1 (by omega)
  obtain ⟨e1, e2⟩ := tdiv_pos_spec a b hb
  have hm := Int.emod_nonneg a (show b ≠ 0 by omega)
  have hm2 := Int.emod_lt_of_pos a hb
  unfold spec_l01Floor.f
  rw [if_neg (by omega), if_neg (by omega), e1, e2]
  by_cases h : 0 ≤ a ∨ a % b = 0
  · rw [if_pos h, if_pos h, if_neg (by omega), wid _ (by omega) (by omega)]
  · rw [if_neg h, if_neg h, if_pos (by omega)]
    have : a / b + 1 ≤ 0 := by
      have := Int.ediv_neg_of_neg_of_pos (show a < 0 by omega) hb
      omega
    rw [wid (a / b + 1) (by omega) (by omega), wid _ (by omega) (by omega)]; congr 1; omega

theorem spec_floor_neg (a b : Int) (hb : b < 0) (hb1 : -9223372036854775807 ≤ b) (h0 : -9223372036854775807 ≤ a) (h1 : a ≤ 9223372036854775807) : spec_l01Floor.f a b = some ((-a) / (-b)) := by
  have h := spec_floor_pos (-a) (-b) (by omega) (by omega) (by omega)
  unfold spec_l01Floor.f at h ⊢
  rw [if_neg (by omega), if_neg (by omega)] at h
  rw [if_pos hb, wid (-a) (by omega) (by omega), wid (-b) (by omega) (by omega), if_neg (by omega)]; exact h

/-- The floor of a fraction, whatever the sign of its denominator. -/
def flr (a b : Int) : Int := if 0 < b then a / b else (-a) / (-b)

theorem spec_floor_eq (a b : Int) (hb : b ≠ 0) (hb1 : -9223372036854775807 ≤ b) (h0 : -9223372036854775807 ≤ a) (h1 : a ≤ 9223372036854775807) : spec_l01Floor.f a b = some (flr a b) := by
  unfold flr; by_cases h : 0 < b
  · rw [if_pos h, spec_floor_pos a b h h0 h1]
  · rw [if_neg h, spec_floor_neg a b (by omega) hb1 h0 h1]

theorem flr_range (a b : Int) (hb : b ≠ 0) (A : Int) (h0 : -A ≤ a) (h1 : a ≤ A) (hA : 0 ≤ A) : -A ≤ flr a b ∧ flr a b ≤ A := by
  unfold flr; by_cases h : 0 < b
  · rw [if_pos h]; exact ediv_range a b h A h0 h1 hA
  · rw [if_neg h]; exact ediv_range (-a) (-b) (by omega) A (by omega) (by omega) hA

theorem spec_ceil_eq (a b : Int) (hb : b ≠ 0) (hb1 : -9223372036854775807 ≤ b) (h0 : -9223372036854775807 ≤ a) (h1 : a ≤ 9223372036854775807) : spec_l01Ceil.f a b = some (-(flr (-a) b)) := by
  have := flr_range (-a) b hb 9223372036854775807 (by omega) (by omega) (by omega)
  unfold spec_l01Ceil.f; rw [wid (-a) (by omega) (by omega), spec_floor_eq (-a) b hb hb1 (by omega) (by omega)]; simp only [Option.bind_some]; rw [wid _ (by omega) (by omega)]

/-- The nearest integer to a fraction of a positive denominator; a half goes up. -/
def nrs (a b : Int) : Int := (2 * a + b) / (2 * b)

theorem nrs_eq (a b : Int) (hb : 0 < b) : nrs a b = if b ≤ 2 * (a % b) then a / b + 1 else a / b := by
  obtain ⟨e, m0, m1⟩ := ediv_bounds a b hb
  unfold nrs
  have h : 2 * a + b = (2 * (a % b) + b) + (2 * b) * (a / b) := by rw [Int.mul_assoc]; omega
  rw [h, Int.add_mul_ediv_left _ _ (by omega)]
  by_cases k : b ≤ 2 * (a % b)
  · rw [if_pos k]
    have : (2 * (a % b) + b) / (2 * b) = 1 := by
      rw [show 2 * (a % b) + b = (2 * (a % b) - b) + 2 * b * 1 by omega, Int.add_mul_ediv_left _ _ (by omega), Int.ediv_eq_zero_of_lt (by omega) (by omega)]; rfl
    omega
  · rw [if_neg k, Int.ediv_eq_zero_of_lt (by omega) (by omega)]; omega

theorem nrs_range (a b : Int) (hb : 0 < b) (A : Int) (h0 : -A ≤ a) (h1 : a ≤ A) (hA : 0 ≤ A) : -A ≤ nrs a b ∧ nrs a b ≤ A + 1 := by
  rw [nrs_eq a b hb]
  have := ediv_range a b hb A h0 h1 hA
  by_cases k : b ≤ 2 * (a % b)
  · rw [if_pos k]; omega
  · rw [if_neg k]; omega

theorem impl_nearest_pos (a b : Int) (hb : 0 < b) (hb1 : b ≤ 1000000000000000000) (h0 : -4000000000000000000 ≤ a) (h1 : a ≤ 4000000000000000000) : impl_nearest.f a b = some (nrs a b) := by
  obtain ⟨e, m0, m1⟩ := ediv_bounds a b hb
  have hr := ediv_range a b hb 4000000000000000000 h0 h1 (by omega)
  have e2 : a / b * b = a - a % b := by rw [Int.mul_comm]; omega
  rw [nrs_eq a b hb]
  unfold impl_nearest.f
  rw [if_neg (by omega), impl_floor_pos a b hb (by omega) (by omega)]
  simp only [Option.bind_some]
  rw [e2, wid (a - a % b) (by omega) (by omega), show a - (a - a % b) = a % b by omega, wid (a % b) (by omega) (by omega), wid (b - a % b) (by omega) (by omega), wid (a / b + 1) (by omega) (by omega)]
  by_cases k : b ≤ 2 * (a % b)
  · rw [if_pos k, if_pos (by omega)]
  · rw [if_neg k, if_neg (by omega)]

theorem spec_nearest_pos (a b : Int) (hb : 0 < b) (hb1 : b ≤ 1000000000000000000) (h0 : -4000000000000000000 ≤ a) (h1 : a ≤ 4000000000000000000) : spec_l01Nearest.f a b = some (nrs a b) := by
  unfold spec_l01Nearest.f nrs
  rw [wid (2 * a) (by omega) (by omega), wid (2 * b) (by omega) (by omega), wid (2 * a + b) (by omega) (by omega), spec_floor_pos _ _ (by omega) (by omega) (by omega)]; rfl

theorem bind_dec {α : Type} (p : Prop) [Decidable p] (A : Option α) (B : α) : ((some (decide p)).bind fun t => if t = true then A else some B) = if p then A else some B := by
  by_cases h : p <;> simp [h]

theorem flr_pos (a b : Int) (h : 0 < b) : flr a b = a / b := by unfold flr; rw [if_pos h]

theorem impl_plain_eq (a : Int) (h0 : -9000000000000000000 ≤ a) (h1 : a ≤ 9000000000000000000) : impl_plain.f a = some (a % 1296000) := by
  unfold impl_plain.f; rw [impl_mod_pos a _ (by omega) (by omega) (by omega) (by omega) (by omega)]; rfl

theorem spec_plain_eq (a : Int) : spec_l03Plain.f a = some (a % 1296000) := by
  unfold spec_l03Plain.f; rw [spec_mod_pos a _ (by omega) (by omega)]; rfl

def tst (T Y d : Int) : Int := T * Y / 1000000000 / d

theorem tst_range (T Y d : Int) (h0 : 0 ≤ T) (h1 : 0 ≤ Y) (h2 : Y ≤ 1000000000) (hd : 0 < d) : 0 ≤ tst T Y d ∧ tst T Y d ≤ T := by
  unfold tst
  have m0 : 0 ≤ T * Y := Int.mul_nonneg h0 h1
  have m1 : T * Y ≤ T * 1000000000 := Int.mul_le_mul_of_nonneg_left h2 h0
  have q0 : 0 ≤ T * Y / 1000000000 := by omega
  have q1 : T * Y / 1000000000 ≤ T := by omega
  exact ⟨Int.ediv_nonneg q0 (by omega), Int.le_trans (Int.ediv_le_self d q0) q1⟩

theorem tstep (T Y d : Int) (h0 : 0 ≤ T) (h1 : T ≤ 1000000000) (h2 : 0 ≤ Y) (h3 : Y ≤ 1000000000) (hd : 0 < d) :
    wrap64 (Int.tdiv (wrap64 (Int.tdiv (wrap64 (T * Y)) 1000000000)) d) = tst T Y d := by
  have m0 : 0 ≤ T * Y := Int.mul_nonneg h0 h2
  have m1 : T * Y ≤ T * 1000000000 := Int.mul_le_mul_of_nonneg_left h3 h0
  obtain ⟨k0, k1⟩ := tst_range T Y d h0 h2 h3 hd
  rw [wid (T * Y) (by omega) (by omega), tdivP _ _ m0, wid (T * Y / 1000000000) (by omega) (by omega), tdivP _ _ (by omega)]
  exact wid _ (by unfold tst at k0; omega) (by unfold tst at k1; omega)

def pX (r : Int) : Int := r * 48481368 / 10000

def pY (r : Int) : Int := pX r * pX r / 1000000000

def pT3 (r : Int) : Int := tst (pX r) (pY r) 6

def pT5 (r : Int) : Int := tst (pT3 r) (pY r) 20

def pT7 (r : Int) : Int := tst (pT5 r) (pY r) 42

def pT9 (r : Int) : Int := tst (pT7 r) (pY r) 72

def pC2 (r : Int) : Int := pY r / 2

def pC4 (r : Int) : Int := tst (pC2 r) (pY r) 12

def pC6 (r : Int) : Int := tst (pC4 r) (pY r) 30

def pC8 (r : Int) : Int := tst (pC6 r) (pY r) 56

def pC10 (r : Int) : Int := tst (pC8 r) (pY r) 90

def polyP (r : Int) : Int := pX r - pT3 r + pT5 r - pT7 r + pT9 r

def polyQ (r : Int) : Int := 1000000000 - pC2 r + pC4 r - pC6 r + pC8 r - pC10 r

theorem pX_range (r : Int) (h0 : 0 ≤ r) (h1 : r ≤ 162000) : 0 ≤ pX r ∧ pX r ≤ 785398162 := by unfold pX; omega

theorem pY_range (r : Int) (h0 : 0 ≤ r) (h1 : r ≤ 162000) : 0 ≤ pY r ∧ pY r ≤ 785398162 := by
  obtain ⟨a, b⟩ := pX_range r h0 h1
  have m0 : 0 ≤ pX r * pX r := Int.mul_nonneg a a
  have m1 : pX r * pX r ≤ pX r * 785398162 := Int.mul_le_mul_of_nonneg_left b a
  unfold pY; omega

theorem pT_range (r : Int) (h0 : 0 ≤ r) (h1 : r ≤ 162000) : (0 ≤ pT3 r ∧ pT3 r ≤ pX r) ∧ (0 ≤ pT5 r ∧ pT5 r ≤ pT3 r) ∧ (0 ≤ pT7 r ∧ pT7 r ≤ pT5 r) ∧ (0 ≤ pT9 r ∧ pT9 r ≤ pT7 r) := by
  have a := pX_range r h0 h1
  have y := pY_range r h0 h1
  have t3 : 0 ≤ pT3 r ∧ pT3 r ≤ pX r := tst_range _ _ _ (by omega) (by omega) (by omega) (by omega)
  have t5 : 0 ≤ pT5 r ∧ pT5 r ≤ pT3 r := tst_range _ _ _ (by omega) (by omega) (by omega) (by omega)
  have t7 : 0 ≤ pT7 r ∧ pT7 r ≤ pT5 r := tst_range _ _ _ (by omega) (by omega) (by omega) (by omega)
  have t9 : 0 ≤ pT9 r ∧ pT9 r ≤ pT7 r := tst_range _ _ _ (by omega) (by omega) (by omega) (by omega)
  exact ⟨t3, t5, t7, t9⟩

theorem pC_range (r : Int) (h0 : 0 ≤ r) (h1 : r ≤ 162000) : (0 ≤ pC2 r ∧ pC2 r ≤ 392699081) ∧ (0 ≤ pC4 r ∧ pC4 r ≤ pC2 r) ∧ (0 ≤ pC6 r ∧ pC6 r ≤ pC4 r) ∧ (0 ≤ pC8 r ∧ pC8 r ≤ pC6 r) ∧ (0 ≤ pC10 r ∧ pC10 r ≤ pC8 r) := by
  have y := pY_range r h0 h1
  have c2 : 0 ≤ pC2 r ∧ pC2 r ≤ 392699081 := by unfold pC2; omega
  have c4 : 0 ≤ pC4 r ∧ pC4 r ≤ pC2 r := tst_range _ _ _ (by omega) (by omega) (by omega) (by omega)
  have c6 : 0 ≤ pC6 r ∧ pC6 r ≤ pC4 r := tst_range _ _ _ (by omega) (by omega) (by omega) (by omega)
  have c8 : 0 ≤ pC8 r ∧ pC8 r ≤ pC6 r := tst_range _ _ _ (by omega) (by omega) (by omega) (by omega)
  have c10 : 0 ≤ pC10 r ∧ pC10 r ≤ pC8 r := tst_range _ _ _ (by omega) (by omega) (by omega) (by omega)
  exact ⟨c2, c4, c6, c8, c10⟩

theorem polyP_range (r : Int) (h0 : 0 ≤ r) (h1 : r ≤ 162000) : -2000000000 ≤ polyP r ∧ polyP r ≤ 2500000000 := by
  have a := pX_range r h0 h1; have t := pT_range r h0 h1
  unfold polyP; omega

theorem polyQ_range (r : Int) (h0 : 0 ≤ r) (h1 : r ≤ 162000) : -2000000000 ≤ polyQ r ∧ polyQ r ≤ 2500000000 := by
  have t := pC_range r h0 h1
  unfold polyQ; omega

theorem spec_arc_eq (r : Int) (h0 : 0 ≤ r) (h1 : r ≤ 162000) : spec_l04Arc.f r = some (pX r, pY r) := by
  obtain ⟨a, b⟩ := pX_range r h0 h1
  have m0 : 0 ≤ pX r * pX r := Int.mul_nonneg a a
  have m1 : pX r * pX r ≤ pX r * 785398162 := Int.mul_le_mul_of_nonneg_left b a
  have e : wrap64 (Int.tdiv (wrap64 (r * 48481368)) 10000) = pX r := by
    rw [wid (r * 48481368) (by omega) (by omega), tdivP _ _ (by omega)]; exact wid (pX r) (by omega) (by omega)
  have e2 : wrap64 (Int.tdiv (wrap64 (pX r * pX r)) 1000000000) = pY r := by
    have y := pY_range r h0 h1
    rw [wid (pX r * pX r) (by omega) (by omega), tdivP _ _ m0]; exact wid (pY r) (by omega) (by omega)
  unfold spec_l04Arc.f
  rw [e, e2]

theorem spec_P_eq (r : Int) (h0 : 0 ≤ r) (h1 : r ≤ 162000) : spec_l04P.f r = some (polyP r) := by
  have a := pX_range r h0 h1; have y := pY_range r h0 h1; obtain ⟨t3, t5, t7, t9⟩ := pT_range r h0 h1
  unfold spec_l04P.f
  rw [spec_arc_eq r h0 h1]
  simp only [Option.bind_some]
  rw [tstep (pX r) (pY r) 6 (by omega) (by omega) (by omega) (by omega) (by omega), show tst (pX r) (pY r) 6 = pT3 r from rfl,
    tstep (pT3 r) (pY r) 20 (by omega) (by omega) (by omega) (by omega) (by omega), show tst (pT3 r) (pY r) 20 = pT5 r from rfl,
    tstep (pT5 r) (pY r) 42 (by omega) (by omega) (by omega) (by omega) (by omega), show tst (pT5 r) (pY r) 42 = pT7 r from rfl,
    tstep (pT7 r) (pY r) 72 (by omega) (by omega) (by omega) (by omega) (by omega), show tst (pT7 r) (pY r) 72 = pT9 r from rfl,
    wid (pX r - pT3 r) (by omega) (by omega), wid (pX r - pT3 r + pT5 r) (by omega) (by omega), wid (pX r - pT3 r + pT5 r - pT7 r) (by omega) (by omega), wid (pX r - pT3 r + pT5 r - pT7 r + pT9 r) (by omega) (by omega)]
  rfl

theorem spec_Q_eq (r : Int) (h0 : 0 ≤ r) (h1 : r ≤ 162000) : spec_l04Q.f r = some (polyQ r) := by
  have y := pY_range r h0 h1; obtain ⟨c2, c4, c6, c8, c10⟩ := pC_range r h0 h1
  have e2 : wrap64 (Int.tdiv (pY r) 2) = pC2 r := by rw [tdivP _ _ (by omega)]; exact wid (pC2 r) (by omega) (by omega)
  unfold spec_l04Q.f
  rw [spec_arc_eq r h0 h1]
  simp only [Option.bind_some]
  rw [e2, tstep (pC2 r) (pY r) 12 (by omega) (by omega) (by omega) (by omega) (by omega), show tst (pC2 r) (pY r) 12 = pC4 r from rfl,
    tstep (pC4 r) (pY r) 30 (by omega) (by omega) (by omega) (by omega) (by omega), show tst (pC4 r) (pY r) 30 = pC6 r from rfl,
    tstep (pC6 r) (pY r) 56 (by omega) (by omega) (by omega) (by omega) (by omega), show tst (pC6 r) (pY r) 56 = pC8 r from rfl,
    tstep (pC8 r) (pY r) 90 (by omega) (by omega) (by omega) (by omega) (by omega), show tst (pC8 r) (pY r) 90 = pC10 r from rfl,
    wid (1000000000 - pC2 r) (by omega) (by omega), wid (1000000000 - pC2 r + pC4 r) (by omega) (by omega), wid (1000000000 - pC2 r + pC4 r - pC6 r) (by omega) (by omega), wid (1000000000 - pC2 r + pC4 r - pC6 r + pC8 r) (by omega) (by omega), wid (1000000000 - pC2 r + pC4 r - pC6 r + pC8 r - pC10 r) (by omega) (by omega)]
  rfl

theorem impl_poly_eq (r : Int) (h0 : 0 ≤ r) (h1 : r ≤ 162000) : impl_polynomials.f r = some (polyP r, polyQ r) := by
  obtain ⟨a, b⟩ := pX_range r h0 h1
  have y := pY_range r h0 h1; obtain ⟨t3, t5, t7, t9⟩ := pT_range r h0 h1; obtain ⟨c2, c4, c6, c8, c10⟩ := pC_range r h0 h1
  have m0 : 0 ≤ pX r * pX r := Int.mul_nonneg a a
  have m1 : pX r * pX r ≤ pX r * 785398162 := Int.mul_le_mul_of_nonneg_left b a
  have e : wrap64 (Int.tdiv (wrap64 (r * 48481368)) 10000) = pX r := by
    rw [wid (r * 48481368) (by omega) (by omega), tdivP _ _ (by omega)]; exact wid (pX r) (by omega) (by omega)
  have e1 : wrap64 (Int.tdiv (wrap64 (pX r * pX r)) 1000000000) = pY r := by
    rw [wid (pX r * pX r) (by omega) (by omega), tdivP _ _ m0]; exact wid (pY r) (by omega) (by omega)
  have e2 : wrap64 (Int.tdiv (pY r) 2) = pC2 r := by rw [tdivP _ _ (by omega)]; exact wid (pC2 r) (by omega) (by omega)
  unfold impl_polynomials.f
  rw [e, e1, e2, tstep (pX r) (pY r) 6 (by omega) (by omega) (by omega) (by omega) (by omega), show tst (pX r) (pY r) 6 = pT3 r from rfl,
    tstep (pT3 r) (pY r) 20 (by omega) (by omega) (by omega) (by omega) (by omega), show tst (pT3 r) (pY r) 20 = pT5 r from rfl,
    tstep (pT5 r) (pY r) 42 (by omega) (by omega) (by omega) (by omega) (by omega), show tst (pT5 r) (pY r) 42 = pT7 r from rfl,
    tstep (pT7 r) (pY r) 72 (by omega) (by omega) (by omega) (by omega) (by omega), show tst (pT7 r) (pY r) 72 = pT9 r from rfl,
    wid (pX r - pT3 r) (by omega) (by omega), wid (pX r - pT3 r + pT5 r) (by omega) (by omega), wid (pX r - pT3 r + pT5 r - pT7 r) (by omega) (by omega), wid (pX r - pT3 r + pT5 r - pT7 r + pT9 r) (by omega) (by omega),
    tstep (pC2 r) (pY r) 12 (by omega) (by omega) (by omega) (by omega) (by omega), show tst (pC2 r) (pY r) 12 = pC4 r from rfl,
    tstep (pC4 r) (pY r) 30 (by omega) (by omega) (by omega) (by omega) (by omega), show tst (pC4 r) (pY r) 30 = pC6 r from rfl,
    tstep (pC6 r) (pY r) 56 (by omega) (by omega) (by omega) (by omega) (by omega), show tst (pC6 r) (pY r) 56 = pC8 r from rfl,
    tstep (pC8 r) (pY r) 90 (by omega) (by omega) (by omega) (by omega) (by omega), show tst (pC8 r) (pY r) 90 = pC10 r from rfl,
    wid (1000000000 - pC2 r) (by omega) (by omega), wid (1000000000 - pC2 r + pC4 r) (by omega) (by omega), wid (1000000000 - pC2 r + pC4 r - pC6 r) (by omega) (by omega), wid (1000000000 - pC2 r + pC4 r - pC6 r + pC8 r) (by omega) (by omega), wid (1000000000 - pC2 r + pC4 r - pC6 r + pC8 r - pC10 r) (by omega) (by omega)]
  rfl

/-- The sine in nano units, in the first half turn's quarters: q the quarter, r the angle within it. -/
def qsin (q r : Int) : Int := if r ≤ 162000 then (if q < 2 then polyP r else -(polyP r)) else (if q < 2 then polyQ (324000 - r) else -(polyQ (324000 - r)))

def nsin (a : Int) : Int := if a % 1296000 / 324000 % 2 = 1 then qsin (a % 1296000 / 324000) (324000 - a % 1296000 % 324000) else qsin (a % 1296000 / 324000) (a % 1296000 % 324000)

theorem qsin_range (q r : Int) (h0 : 0 ≤ r) (h1 : r ≤ 324000) : -2500000000 ≤ qsin q r ∧ qsin q r ≤ 2500000000 := by
  unfold qsin
  by_cases h : r ≤ 162000
  · have := polyP_range r h0 h
    rw [if_pos h]; by_cases c : q < 2
    · rw [if_pos c]; omega
    · rw [if_neg c]; omega
  · have := polyQ_range (324000 - r) (by omega) (by omega)
    rw [if_neg h]; by_cases c : q < 2
    · rw [if_pos c]; omega
    · rw [if_neg c]; omega

theorem nsin_range (a : Int) : -2500000000 ≤ nsin a ∧ nsin a ≤ 2500000000 := by
  unfold nsin
  by_cases h : a % 1296000 / 324000 % 2 = 1
  · rw [if_pos h]; exact qsin_range _ _ (by omega) (by omega)
  · rw [if_neg h]; exact qsin_range _ _ (by omega) (by omega)

theorem impl_nanoSine_j (k : Nat) (q r : Int) (h0 : 0 ≤ r) (h1 : r ≤ 324000) : impl_nanoSine.j0 (k + 1) q r = some (qsin q r) := by
  simp only [impl_nanoSine.j0]; unfold qsin
  by_cases h : r ≤ 162000
  · have := polyP_range r h0 h
    rw [if_pos h, if_pos h, impl_poly_eq r h0 h]; simp only [Option.bind_some]
    rw [wid (-polyP r) (by omega) (by omega), apply_ite some]
  · have := polyQ_range (324000 - r) (by omega) (by omega)
    rw [if_neg h, if_neg h, wid (324000 - r) (by omega) (by omega), impl_poly_eq (324000 - r) (by omega) (by omega)]; simp only [Option.bind_some]
    rw [wid (-polyQ (324000 - r)) (by omega) (by omega), apply_ite some]

theorem spec_l04Sine_j (k : Nat) (q r : Int) (h0 : 0 ≤ r) (h1 : r ≤ 324000) : spec_l04Sine.j0 (k + 1) q r = some (qsin q r) := by
  simp only [spec_l04Sine.j0]; unfold qsin
  by_cases h : r ≤ 162000
  · have := polyP_range r h0 h
    rw [if_pos h, if_pos h, spec_P_eq r h0 h]; simp only [Option.bind_some]
    rw [wid (-polyP r) (by omega) (by omega)]
    by_cases c : q < 2
    · rw [if_pos c, if_neg (by omega)]
    · rw [if_neg c, if_pos (by omega)]
  · have := polyQ_range (324000 - r) (by omega) (by omega)
    rw [if_neg h, if_neg h, wid (324000 - r) (by omega) (by omega), spec_Q_eq (324000 - r) (by omega) (by omega)]; simp only [Option.bind_some]
    rw [wid (-polyQ (324000 - r)) (by omega) (by omega)]
    by_cases c : q < 2
    · rw [if_pos c, if_neg (by omega)]
    · rw [if_neg c, if_pos (by omega)]

theorem impl_nanoSine_eq (k : Nat) (a : Int) (h0 : -9000000000000000000 ≤ a) (h1 : a ≤ 9000000000000000000) : impl_nanoSine.f (k + 1) a = some (nsin a) := by
  unfold impl_nanoSine.f nsin
  rw [impl_plain_eq a h0 h1]; simp only [Option.bind_some]
  rw [tdivP _ _ (show 0 ≤ a % 1296000 by omega), tmodP _ _ (show 0 ≤ a % 1296000 by omega), wid (a % 1296000 / 324000) (by omega) (by omega), tmodP _ _ (show 0 ≤ a % 1296000 / 324000 by omega), wid (324000 - a % 1296000 % 324000) (by omega) (by omega),
    impl_nanoSine_j k _ _ (by omega) (by omega), impl_nanoSine_j k _ _ (by omega) (by omega), apply_ite some]

theorem spec_nanoSine_eq (k : Nat) (a : Int) : spec_l04Sine.f (k + 1) a = some (nsin a) := by
  unfold spec_l04Sine.f nsin
  rw [spec_plain_eq a]; simp only [Option.bind_some]
  rw [tdivP _ _ (show 0 ≤ a % 1296000 by omega), tmodP _ _ (show 0 ≤ a % 1296000 by omega), wid (a % 1296000 / 324000) (by omega) (by omega), tmodP _ _ (show 0 ≤ a % 1296000 / 324000 by omega), wid (324000 - a % 1296000 % 324000) (by omega) (by omega),
    spec_l04Sine_j k _ _ (by omega) (by omega), spec_l04Sine_j k _ _ (by omega) (by omega), apply_ite some]

def dim (y m : Int) : Int := if m = 2 then (if y % 4 = 0 then 29 else 28) else if m = 4 ∨ m = 6 ∨ m = 9 ∨ m = 11 then 30 else 31

theorem tmod4 (y : Int) : Int.tmod y 4 = 0 ↔ y % 4 = 0 := by
  obtain ⟨e, _⟩ := tdiv_pos_spec y 4 (by omega)
  rw [e]; by_cases h : 0 ≤ y ∨ y % 4 = 0
  · rw [if_pos h]
  · rw [if_neg h]; omega

theorem impl_days_eq (k : Nat) (y m : Int) : impl_daysInMonth.f (k + 1) y m = some (dim y m) := by
  unfold impl_daysInMonth.f dim
  simp only [impl_daysInMonth.j0]
  by_cases h4 : m = 4
  · subst h4; simp
  · by_cases h6 : m = 6
    · subst h6; simp
    · by_cases h9 : m = 9
      · subst h9; simp
      · by_cases h11 : m = 11
        · subst h11; simp
        · rw [if_neg h4, if_neg h6, if_neg h9, if_neg (by simpa using h11)]
          by_cases h2 : m = 2
          · rw [if_pos h2, if_pos h2]; by_cases h : y % 4 = 0
            · rw [if_pos h, if_pos ((tmod4 y).2 h)]
            · rw [if_neg h, if_neg (fun k => h ((tmod4 y).1 k))]
          · rw [if_neg h2, if_neg h2, if_neg (by omega)]

/-- The number of January 1 of a year; the days of a year's first n months; the number of a date. -/
def yr (y : Int) : Int := 365 * (y - 2000) - (2000 - y) / 4

def cum (y : Int) : Nat → Int
  | 0 => 0
  | n + 1 => cum y n + dim y ((n : Int) + 1)

def num (y m d : Int) : Int := yr y + d - 1 + cum y (m - 1).toNat

theorem dim_range (y m : Int) : 28 ≤ dim y m ∧ dim y m ≤ 31 := by
  unfold dim; repeat' split
  all_goals omega

theorem cum_succ (y j : Int) (h : 1 ≤ j) : cum y j.toNat = cum y (j - 1).toNat + dim y j := by
  obtain ⟨n, rfl⟩ : ∃ n : Nat, j = (n : Int) + 1 := ⟨(j - 1).toNat, by omega⟩
  rw [show ((n : Int) + 1).toNat = n + 1 by omega, show ((n : Int) + 1 - 1).toNat = n by omega]; rfl

theorem spec_year_eq (y : Int) (h0 : -1000000 ≤ y) (h1 : y ≤ 1000000) : spec_l07Year.f y = some (yr y) := by
  unfold spec_l07Year.f yr
  rw [wid (y - 2000) (by omega) (by omega), spec_ceil_eq _ _ (by omega) (by omega) (by omega) (by omega), flr_pos _ _ (by omega)]; simp only [Option.bind_some]
  rw [wid (365 * (y - 2000)) (by omega) (by omega), wid _ (by omega) (by omega)]; congr 1; omega

theorem impl_number_loop (y m d : Int) (hm : m ≤ 12) : ∀ (t : Nat) (n j : Int), 1 ≤ j → m - j ≤ t → j ≤ m → -1000000 ≤ n → n ≤ 1000000 + 31 * j → ∀ k, t + 1 < k → impl_dayNumber.l0 k n j y m d = some (n + cum y (m - 1).toNat - cum y (j - 1).toNat) := by
  intro t
  induction t with
  | zero =>
    intro n j hj ht hjm hn hn1 k hk
    obtain ⟨k, rfl⟩ : ∃ z, k = z + 1 := ⟨k - 1, by omega⟩
    obtain rfl : j = m := by omega
    simp only [impl_dayNumber.l0]; rw [if_neg (by omega)]; congr 1; omega
  | succ t ih =>
    intro n j hj ht hjm hn hn1 k hk
    obtain ⟨k, rfl⟩ : ∃ z, k = z + 1 := ⟨k - 1, by omega⟩
    simp only [impl_dayNumber.l0]
    by_cases h : j < m
    · have := dim_range y j
      have := cum_succ y j hj
      have hd : impl_daysInMonth.f k y j = some (dim y j) := by
        obtain ⟨k, rfl⟩ : ∃ z, k = z + 1 := ⟨k - 1, by omega⟩
        exact impl_days_eq k y j
      rw [if_pos h, hd]; simp only [Option.bind_some]
      rw [wid (n + dim y j) (by omega) (by omega), wid (j + 1) (by omega) (by omega), ih (n + dim y j) (j + 1) (by omega) (by omega) (by omega) (by omega) (by omega) k (by omega), show j + 1 - 1 = j by omega]
      congr 1; omega
    · obtain rfl : j = m := by omega
      rw [if_neg h]; congr 1; omega

theorem yr_range (y : Int) (h0 : 1900 ≤ y) (h1 : y ≤ 2101) : -36600 ≤ yr y ∧ yr y ≤ 37000 := by unfold yr; omega

theorem impl_number_eq (y m d : Int) (h0 : 1901 ≤ y) (h1 : y ≤ 2101) (hm0 : 1 ≤ m) (hm1 : m ≤ 12) (hd0 : -1000 ≤ d) (hd1 : d ≤ 1000) (k : Nat) (hk : 13 < k) : impl_dayNumber.f k y m d = some (num y m d) := by
  have := yr_range y (by omega) h1
  have e : -36159 + 365 * (y - 1901) + (y - 1901) / 4 = yr y := by unfold yr; omega
  unfold impl_dayNumber.f num
  rw [wid (y - 1901) (by omega) (by omega), tdivP _ _ (by omega), wid (365 * (y - 1901)) (by omega) (by omega), wid ((y - 1901) / 4) (by omega) (by omega), wid (-36159 + 365 * (y - 1901)) (by omega) (by omega), e,
    wid (yr y) (by omega) (by omega), wid (yr y + d) (by omega) (by omega), wid (yr y + d - 1) (by omega) (by omega), impl_number_loop y m d hm1 12 _ 1 (by omega) (by omega) hm0 (by omega) (by omega) k (by omega)]
  simp [cum]

/-- Whether a number is that of a date: the first one's is yr 1901, the last one's the one ahead of yr 2100. -/
abbrev isN (n : Int) : Prop := -36159 ≤ n ∧ n ≤ 36524

theorem yr_1901 : yr 1901 = -36159 := by decide

theorem yr_2100 : yr 2100 = 36525 := by decide

theorem num_last : num 2099 12 31 = 36524 := by decide

theorem num_1901 : num 1901 1 1 = -36159 := by decide

theorem impl_isDayNumber_eq (k : Nat) (n : Int) : impl_isDayNumber.f (k + 20) n = some (decide (isN n)) := by
  unfold impl_isDayNumber.f
  rw [impl_number_eq 1901 1 1 (by omega) (by omega) (by omega) (by omega) (by omega) (by omega) _ (by omega), impl_number_eq 2099 12 31 (by omega) (by omega) (by omega) (by omega) (by omega) (by omega) _ (by omega), num_last, num_1901]; simp only [Option.bind_some]
  rw [impl_in_eq]; rfl

theorem spec_has_eq (n : Int) : spec_l07Has.f n = some (decide (isN n)) := by
  unfold spec_l07Has.f
  rw [spec_year_eq 1901 (by omega) (by omega), spec_year_eq 2100 (by omega) (by omega), yr_1901, yr_2100]; simp only [Option.bind_some]
  rw [wid (36525 - 1) (by omega) (by omega), spec_in_eq]; rfl

theorem spec_mean_eq (n : Int) (h : isN n) : spec_l08Mean.f n = some ((1009656 + n * 354833064 / 100000) % 1296000) := by
  unfold spec_l08Mean.f
  rw [wid (n * 354833064) (by omega) (by omega), spec_floor_pos _ _ (by omega) (by omega) (by omega)]; simp only [Option.bind_some]
  rw [wid _ (by omega) (by omega), spec_plain_eq]; rfl

theorem impl_mean_eq (n : Int) (h : isN n) : impl_meanLongitude.f n = some ((1009656 + n * 354833064 / 100000) % 1296000) := by
  unfold impl_meanLongitude.f
  rw [wid (n * 354833064) (by omega) (by omega), impl_floor_pos _ _ (by omega) (by omega) (by omega)]; simp only [Option.bind_some]
  rw [wid _ (by omega) (by omega), impl_plain_eq _ (by omega) (by omega)]; rfl

def lon (n : Int) : Int := ((1009656 + n * 354833064 / 100000) % 1296000 + nrs (6894 * nsin ((1287101 + n * 354816108 / 100000) % 1296000) + 72 * nsin (2 * ((1287101 + n * 354816108 / 100000) % 1296000))) 1000000000) % 1296000

theorem spec_longitude_eq (k : Nat) (n : Int) (h : isN n) : spec_l08Longitude.f (k + 1) n = some (lon n) := by
  unfold spec_l08Longitude.f lon
  rw [wid (n * 354816108) (by omega) (by omega), spec_floor_pos _ _ (by omega) (by omega) (by omega)]; simp only [Option.bind_some]
  rw [wid (1287101 + n * 354816108 / 100000) (by omega) (by omega), spec_plain_eq, spec_mean_eq n h]; simp only [Option.bind_some]
  generalize hg : (1287101 + n * 354816108 / 100000) % 1296000 = g
  have r1 := nsin_range g; have r2 := nsin_range (2 * g)
  have r3 := nrs_range (6894 * nsin g + 72 * nsin (2 * g)) 1000000000 (by omega) 100000000000000 (by omega) (by omega) (by omega)
  rw [wid (2 * g) (by omega) (by omega), spec_nanoSine_eq k, spec_nanoSine_eq k]; simp only [Option.bind_some]
  rw [wid (6894 * nsin g) (by omega) (by omega), wid (72 * nsin (2 * g)) (by omega) (by omega), wid (6894 * nsin g + 72 * nsin (2 * g)) (by omega) (by omega), spec_nearest_pos _ _ (by omega) (by omega) (by omega) (by omega)]; simp only [Option.bind_some]
  rw [wid _ (by omega) (by omega), spec_plain_eq]; rfl

theorem impl_sunLongitude_eq (k : Nat) (n : Int) (h : isN n) : impl_sunLongitude.f (k + 1) n = some (lon n) := by
  unfold impl_sunLongitude.f lon
  rw [wid (n * 354816108) (by omega) (by omega), impl_floor_pos _ _ (by omega) (by omega) (by omega)]; simp only [Option.bind_some]
  rw [wid (1287101 + n * 354816108 / 100000) (by omega) (by omega), impl_plain_eq _ (by omega) (by omega), impl_mean_eq n h]; simp only [Option.bind_some]
  generalize hg : (1287101 + n * 354816108 / 100000) % 1296000 = g
  have r1 := nsin_range g; have r2 := nsin_range (2 * g)
  have r3 := nrs_range (6894 * nsin g + 72 * nsin (2 * g)) 1000000000 (by omega) 100000000000000 (by omega) (by omega) (by omega)
  rw [wid (2 * g) (by omega) (by omega), impl_nanoSine_eq k _ (by omega) (by omega), impl_nanoSine_eq k _ (by omega) (by omega)]; simp only [Option.bind_some]
  rw [wid (6894 * nsin g) (by omega) (by omega), wid (72 * nsin (2 * g)) (by omega) (by omega), wid (6894 * nsin g + 72 * nsin (2 * g)) (by omega) (by omega), impl_nearest_pos _ _ (by omega) (by omega) (by omega) (by omega)]; simp only [Option.bind_some]
  rw [wid _ (by omega) (by omega), impl_plain_eq _ (by omega) (by omega)]; rfl

theorem lon_range (n : Int) : 0 ≤ lon n ∧ lon n < 1296000 := by unfold lon; omega

theorem spec_SignOf_eq (k : Nat) (n : Int) : spec_SignOf.f (k + 20) n = some (if isN n then (lon n / 108000, 0) else (0, 2)) := by
  unfold spec_SignOf.f; rw [spec_has_eq, bind_dec]
  by_cases h : isN n
  · have := lon_range n
    rw [if_pos h, if_pos h, spec_longitude_eq (k + 19) n h]; simp only [Option.bind_some]; rw [tdivP _ _ (by omega), wid _ (by omega) (by omega)]
  · rw [if_neg h, if_neg h]

theorem impl_SignOf_eq (k : Nat) (n : Int) : impl_SignOf.f (k + 20) n = some (if isN n then (lon n / 108000, 0) else (0, 2)) := by
  unfold impl_SignOf.f; rw [impl_isDayNumber_eq, bind_dec]
  by_cases h : isN n
  · have := lon_range n
    rw [if_pos h, if_pos h, impl_sunLongitude_eq (k + 19) n h]; simp only [Option.bind_some]; rw [tdivP _ _ (by omega), wid _ (by omega) (by omega)]
  · rw [if_neg h, if_neg h]

theorem FnExactSignOf : laws_FnExactSignOf.Pure := by
  intro n _
  refine ⟨20, ?_⟩
  unfold laws_FnExactSignOf.f
  rw [spec_SignOf_eq 0, impl_SignOf_eq 0]; simp only [Option.bind_some, if_true]

end Go.Proofs.Ytllapjemdegnjaa.Pure
