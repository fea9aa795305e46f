/- Proved: for every code the law FnSines returns true. Conditions: none. -/
import Derived.Test.YtcnaocjhfgnphaaQFnSinesx5
namespace Go.Proofs.Ytcnaocjhfgnphaa.Pure
open Go.RowKit Go.Proofs.Ytcnaocjhfgnphaa.PFnSines Go.Proofs.YtcnaocjhfgnphaaW.PrintWords Go.Proofs.YtcnaocjhfgnphaaW.PrintLast Go.Proofs.YtcnaocjhfgnphaaW.PrintMore
set_option linter.unusedVariables false
set_option linter.unusedSimpArgs false

theorem wid (n : Int) (h0 : -9223372036854775808 ≤ n) (h1 : n ≤ 9223372036854775807) : wrap64 n = n := by unfold wrap64; omega

theorem tmodP (a b : Int) (h : 0 ≤ a) : a.tmod b = a % b := Int.tmod_eq_emod_of_nonneg h

theorem tdivP (a b : Int) (h : 0 ≤ a) : a.tdiv b = a / b := Int.tdiv_eq_ediv_of_nonneg h

theorem ediv_bounds (a b : Int) (hb : 0 < b) : b * (a / b) + a % b = a ∧ 0 ≤ a % b ∧ a % b < b := ⟨Int.mul_ediv_add_emod a b, Int.emod_nonneg _ (by omega), Int.emod_lt_of_pos _ hb⟩

/-- Go's truncated quotient and remainder by a positive number, in Lean's floor form. -/
theorem tdiv_pos_spec (a b : Int) (hb : 0 < b) : a.tmod b = (if 0 ≤ a ∨ a % b = 0 then a % b else a % b - b) ∧ a.tdiv b = (if 0 ≤ a ∨ a % b = 0 then a / b else a / b + 1) := by
  have h1 : a.tdiv b = (if 0 ≤ a ∨ a % b = 0 then a / b else a / b + 1) := by
    rw [Int.tdiv_eq_ediv]
    have e : b.sign = 1 := Int.sign_eq_one_of_pos hb
    rw [e]
    have : (b ∣ a) ↔ a % b = 0 := Int.dvd_iff_emod_eq_zero
    by_cases h : 0 ≤ a ∨ a % b = 0
    · rw [if_pos h, if_pos (by rw [this]; exact h)]; omega
    · rw [if_neg h, if_neg (by rw [this]; exact h)]
  refine ⟨?_, h1⟩
  have h2 := Int.mul_tdiv_add_tmod a b
  have h3 := Int.mul_ediv_add_emod a b
  rw [h1] at h2
  by_cases h : 0 ≤ a ∨ a % b = 0
  · rw [if_pos h] at h2 ⊢; omega
  · rw [if_neg h] at h2 ⊢; rw [Int.mul_add] at h2; omega

theorem ediv_range (a b : Int) (hb : 0 < b) (A : Int) (h0 : -A ≤ a) (h1 : a ≤ A) (hA : 0 ≤ A) : -A ≤ a / b ∧ a / b ≤ A := by
  constructor
  · rw [Int.le_ediv_iff_mul_le hb]
    have : -A * b ≤ -A * 1 := by
      have : A * 1 ≤ A * b := Int.mul_le_mul_of_nonneg_left (by omega) hA
      rw [Int.neg_mul, Int.neg_mul]; omega
    omega
  · have : a / b ≤ A / b := Int.ediv_le_ediv hb h1
    have h2 : A / b ≤ A := Int.ediv_le_self _ hA
    omega

theorem impl_in_eq (n lo hi : Int) : impl_in.f n lo hi = some (decide (lo ≤ n ∧ n ≤ hi)) := by
  unfold impl_in.f; by_cases h : n ≥ lo
  · rw [if_pos h]; simp [show lo ≤ n from h]
  · rw [if_neg h]; simp [show ¬ lo ≤ n from h]

theorem spec_in_eq (n lo hi : Int) : spec_l01In.f n lo hi = some (decide (lo ≤ n ∧ n ≤ hi)) := by
  unfold spec_l01In.f; by_cases h : n ≥ lo
  · rw [if_pos h]; simp [show lo ≤ n from h]
  · rw [if_neg h]; simp [show ¬ lo ≤ n from h]

theorem impl_isValue_eq (n : Int) : impl_isValue.f n = some (decide (-1000000000000 ≤ n ∧ n ≤ 1000000000000)) := by
  unfold impl_isValue.f; rw [impl_in_eq]; rfl

theorem spec_is_eq (n : Int) : spec_l01Is.f n = some (decide (-1000000000000 ≤ n ∧ n ≤ 1000000000000)) := by
  unfold spec_l01Is.f; rw [spec_in_eq]; rfl

theorem impl_floor_pos (a b : Int) (hb : 0 < b) (h0 : -9223372036854775807 ≤ a) (h1 : a ≤ 9223372036854775807) : impl_floor.f a b = some (a / b) := by
  have hr := ediv_range a b hb 9223372036854775807 h0 h1 (by omega)
  obtain ⟨e1, e2⟩ := tdiv_pos_spec a b hb
  have hm := Int.emod_nonneg a (show b ≠ 0 by omega)
  have hm2 := Int.emod_lt_of_pos a hb
  unfold impl_floor.f
  rw [if_neg (by omega), e1, e2]
  by_cases h : 0 ≤ a ∨ a % b = 0
  · rw [if_pos h, if_pos h, wid _ (by omega) (by omega)]
    by_cases hz : a % b = 0
    · rw [if_pos hz]
    · rw [if_neg hz, if_neg]
      have : ¬ (a % b < 0) := by omega
      have : ¬ (b < 0) := by omega
      simp [*]
  · rw [if_neg h, if_neg h, if_neg (by omega), if_pos]
    · have : a / b + 1 ≤ 0 := by
        have := Int.ediv_neg_of_neg_of_pos (show a < 0 by omega) hb
        omega
      rw [wid (a / b + 1) (by omega) (by omega), wid _ (by omega) (by omega)]; congr 1; omega
    · have : (a % b - b < 0) := by omega
      have : ¬ (b < 0) := by omega
      simp [*]

theorem impl_floor_neg (a b : Int) (hb : b < 0) (h0 : -9223372036854775807 ≤ a) (h1 : a ≤ 9223372036854775807) : impl_floor.f a b = some ((-a) / (-b)) := by
  have hr := ediv_range (-a) (-b) (by omega) 9223372036854775807 (by omega) (by omega) (by omega)
  obtain ⟨e1, e2⟩ := tdiv_pos_spec (-a) (-b) (by omega)
  have k1 : a.tmod b = - (-a).tmod (-b) := by rw [Int.neg_tmod, Int.tmod_neg]; omega
  have k2 : a.tdiv b = (-a).tdiv (-b) := by rw [Int.neg_tdiv, Int.tdiv_neg]; omega
  have hm := Int.emod_nonneg (-a) (show -b ≠ 0 by omega)
  have hm2 := Int.emod_lt_of_pos (-a) (show 0 < -b by omega)
  unfold impl_floor.f
  rw [if_neg (by omega), k1, k2, e1, e2]
  by_cases h : 0 ≤ -a ∨ -a % -b = 0
  · rw [if_pos h, if_pos h, wid _ (by omega) (by omega)]
    by_cases hz : -a % -b = 0
    · rw [if_pos (by omega)]
    · rw [if_neg (by omega), if_neg]
      rw [decide_eq_true (show -(-a % -b) < 0 by omega), decide_eq_true hb]; decide
  · rw [if_neg h, if_neg h, if_neg (by omega), if_pos]
    · have : -a / -b + 1 ≤ 0 := by
        have := Int.ediv_neg_of_neg_of_pos (show -a < 0 by omega) (show 0 < -b by omega)
        omega
      rw [wid (-a / -b + 1) (by omega) (by omega), wid _ (by omega) (by omega)]; congr 1; omega
    · rw [decide_eq_false (show ¬ (-(-a % -b - -b) < 0) by omega), decide_eq_true hb]; decide

theorem impl_mod_pos (a b : Int) (hb : 0 < b) (hb1 : b ≤ 9223372036854775807) (h0 : -9223372036854775807 ≤ a) (h1 : a ≤ 9223372036854775807) (hab : -9223372036854775807 ≤ a - b) : impl_mod.f a b = some (a % b) := by
  obtain ⟨e, m0, m1⟩ := ediv_bounds a b hb
  unfold impl_mod.f
  rw [impl_floor_pos a b hb h0 h1]
  have e2 : a / b * b = a - a % b := by rw [Int.mul_comm]; omega
  simp only [Option.bind_some]
  rw [e2, wid (a - a % b) (by omega) (by omega), wid _ (by omega) (by omega)]; congr 1; omega

theorem spec_mod_pos (a b : Int) (hb : 0 < b) (hb1 : b ≤ 4611686018427387904) : spec_l01Mod.f a b = some (a % b) := by
  unfold spec_l01Mod.f
  rw [if_neg (by omega)]
  obtain ⟨e1, e2⟩ := tdiv_pos_spec a b hb
  have m0 := Int.emod_nonneg a (show b ≠ 0 by omega)
  have m1 := Int.emod_lt_of_pos a hb
  rw [e1]
  by_cases h : 0 ≤ a ∨ a % b = 0
  · rw [if_pos h, wid _ (by omega) (by omega), tmodP _ _ (by omega), Int.add_emod_right, Int.emod_emod]
  · rw [if_neg h, wid _ (by omega) (by omega), tmodP _ _ (by omega)]
    have : a % b - b + b = a % b := by omega
    rw [this, Int.emod_emod]

theorem spec_floor_pos (a b : Int) (hb : 0 < b) (h0 : -9223372036854775807 ≤ a) (h1 : a ≤ 9223372036854775807) : spec_l01Floor.f a b = some (a / b) := by
  have hr := ediv_range a b hb 9223372036854775807 h0 h1 (by omega)
  obtain ⟨e1, e2⟩ := tdiv_pos_spec a b hb
  have hm := Int.emod_nonneg a (show b ≠ 0 by omega)
  have hm2 := Int.emod_lt_of_pos a hb
  unfold spec_l01Floor.f
  rw [if_neg (by omega), if_neg (by omega), e1, e2]
  by_cases h : 0 ≤ a ∨ a % b = 0
  · rw [if_pos h, if_pos h, if_neg (by omega), wid _ (by omega) (by omega)]
  · rw [if_neg h, if_neg h, if_pos (by omega)]
    have : a / b + 1 ≤ 0 := by
      have := Int.ediv_neg_of_neg_of_pos (show a < 0 by omega) hb
      omega
    rw [wid (a / b + 1) (by omega) (by omega), wid _ (by omega) (by omega)]; congr 1; omega

theorem spec_floor_neg (a b : Int) (hb : b < 0) (hb1 : -9223372036854775807 ≤ b) (h0 : -9223372036854775807 ≤ a) (h1 : a ≤ 9223372036854775807) : spec_l01Floor.f a b = some ((-a) / (-b)) := by
  have h := spec_floor_pos (-a) (-b) (by omega) (by omega) (by omega)
  unfold spec_l01Floor.f at h ⊢
  rw [if_neg (by omega), if_neg (by omega)] at h
  rw [if_pos hb, wid (-a) (by omega) (by omega), wid (-b) (by omega) (by omega), if_neg (by omega)]; exact h

/-- The floor of a fraction, whatever the sign of its denominator. -/
def flr (a b : Int) : Int := if 0 < b then a / b else (-a) / (-b)

theorem impl_floor_eq (a b : Int) (hb : b ≠ 0) (h0 : -9223372036854775807 ≤ a) (h1 : a ≤ 9223372036854775807) : impl_floor.f a b = some (flr a b) := by
  unfold flr; by_cases h : 0 < b
  · rw [if_pos h, impl_floor_pos a b h h0 h1]
  · rw [if_neg h, impl_floor_neg a b (by omega) h0 h1]

theorem spec_floor_eq (a b : Int) (hb : b ≠ 0) (hb1 : -9223372036854775807 ≤ b) (h0 : -9223372036854775807 ≤ a) (h1 : a ≤ 9223372036854775807) : spec_l01Floor.f a b = some (flr a b) := by
  unfold flr; by_cases h : 0 < b
  · rw [if_pos h, spec_floor_pos a b h h0 h1]
  · rw [if_neg h, spec_floor_neg a b (by omega) hb1 h0 h1]

theorem flr_range (a b : Int) (hb : b ≠ 0) (A : Int) (h0 : -A ≤ a) (h1 : a ≤ A) (hA : 0 ≤ A) : -A ≤ flr a b ∧ flr a b ≤ A := by
  unfold flr; by_cases h : 0 < b
  · rw [if_pos h]; exact ediv_range a b h A h0 h1 hA
  · rw [if_neg h]; exact ediv_range (-a) (-b) (by omega) A (by omega) (by omega) hA

theorem impl_ceil_eq (a b : Int) (hb : b ≠ 0) (h0 : -9223372036854775807 ≤ a) (h1 : a ≤ 9223372036854775807) : impl_ceil.f a b = some (-(flr (-a) b)) := by
  have := flr_range (-a) b hb 9223372036854775807 (by omega) (by omega) (by omega)
  unfold impl_ceil.f; rw [wid (-a) (by omega) (by omega), impl_floor_eq (-a) b hb (by omega) (by omega)]; simp only [Option.bind_some]; rw [wid _ (by omega) (by omega)]

theorem spec_ceil_eq (a b : Int) (hb : b ≠ 0) (hb1 : -9223372036854775807 ≤ b) (h0 : -9223372036854775807 ≤ a) (h1 : a ≤ 9223372036854775807) : spec_l01Ceil.f a b = some (-(flr (-a) b)) := by
  have := flr_range (-a) b hb 9223372036854775807 (by omega) (by omega) (by omega)
  unfold spec_l01Ceil.f; rw [wid (-a) (by omega) (by omega), spec_floor_eq (-a) b hb hb1 (by omega) (by omega)]; simp only [Option.bind_some]; rw [wid _ (by omega) (by omega)]

theorem bind_dec {α : Type} (p : Prop) [Decidable p] (A : Option α) (B : α) : ((some (decide p)).bind fun t => if t = true then A else some B) = if p then A else some B := by
  by_cases h : p <;> simp [h]

theorem flr_pos (a b : Int) (h : 0 < b) : flr a b = a / b := by unfold flr; rw [if_pos h]

theorem impl_plain_eq (a : Int) (h0 : -9000000000000000000 ≤ a) (h1 : a ≤ 9000000000000000000) : impl_plain.f a = some (a % 1296000) := by
  unfold impl_plain.f; rw [impl_mod_pos a _ (by omega) (by omega) (by omega) (by omega) (by omega)]; rfl

theorem spec_plain_eq (a : Int) : spec_l03Plain.f a = some (a % 1296000) := by
  unfold spec_l03Plain.f; rw [spec_mod_pos a _ (by omega) (by omega)]; rfl

def tst (T Y d : Int) : Int := T * Y / 1000000000 / d

theorem tst_range (T Y d : Int) (h0 : 0 ≤ T) (h1 : 0 ≤ Y) (h2 : Y ≤ 1000000000) (hd : 0 < d) : 0 ≤ tst T Y d ∧ tst T Y d ≤ T := by
  unfold tst
  have m0 : 0 ≤ T * Y := Int.mul_nonneg h0 h1
  have m1 : T * Y ≤ T * 1000000000 := Int.mul_le_mul_of_nonneg_left h2 h0
  have q0 : 0 ≤ T * Y / 1000000000 := by omega
  have q1 : T * Y / 1000000000 ≤ T := by omega
  exact ⟨Int.ediv_nonneg q0 (by omega), Int.le_trans (Int.ediv_le_self d q0) q1⟩

theorem tstep (T Y d : Int) (h0 : 0 ≤ T) (h1 : T ≤ 1000000000) (h2 : 0 ≤ Y) (h3 : Y ≤ 1000000000) (hd : 0 < d) :
    wrap64 (Int.tdiv (wrap64 (Int.tdiv (wrap64 (T * Y)) 1000000000)) d) = tst T Y d := by
  have m0 : 0 ≤ T * Y := Int.mul_nonneg h0 h2
  have m1 : T * Y ≤ T * 1000000000 := Int.mul_le_mul_of_nonneg_left h3 h0
  obtain ⟨k0, k1⟩ := tst_range T Y d h0 h2 h3 hd
  rw [wid (T * Y) (by omega) (by omega), tdivP _ _ m0, wid (T * Y / 1000000000) (by omega) (by omega), tdivP _ _ (by omega)]
  exact wid _ (by unfold tst at k0; omega) (by unfold tst at k1; omega)

def pX (r : Int) : Int := r * 48481368 / 10000

def pY (r : Int) : Int := pX r * pX r / 1000000000

def pT3 (r : Int) : Int := tst (pX r) (pY r) 6

def pT5 (r : Int) : Int := tst (pT3 r) (pY r) 20

def pT7 (r : Int) : Int := tst (pT5 r) (pY r) 42

def pT9 (r : Int) : Int := tst (pT7 r) (pY r) 72

def pC2 (r : Int) : Int := pY r / 2

def pC4 (r : Int) : Int := tst (pC2 r) (pY r) 12

def pC6 (r : Int) : Int := tst (pC4 r) (pY r) 30

def pC8 (r : Int) : Int := tst (pC6 r) (pY r) 56

def pC10 (r : Int) : Int := tst (pC8 r) (pY r) 90

def polyP (r : Int) : Int := pX r - pT3 r + pT5 r - pT7 r + pT9 r

def polyQ (r : Int) : Int := 1000000000 - pC2 r + pC4 r - pC6 r + pC8 r - pC10 r

theorem pX_range (r : Int) (h0 : 0 ≤ r) (h1 : r ≤ 162000) : 0 ≤ pX r ∧ pX r ≤ 785398162 := by unfold pX; omega

theorem pY_range (r : Int) (h0 : 0 ≤ r) (h1 : r ≤ 162000) : 0 ≤ pY r ∧ pY r ≤ 785398162 := by
  obtain ⟨a, b⟩ := pX_range r h0 h1
  have m0 : 0 ≤ pX r * pX r := Int.mul_nonneg a a
  have m1 : pX r * pX r ≤ pX r * 785398162 := Int.mul_le_mul_of_nonneg_left b a
  unfold pY; omega

theorem pT_range (r : Int) (h0 : 0 ≤ r) (h1 : r ≤ 162000) : (0 ≤ pT3 r ∧ pT3 r ≤ pX r) ∧ (0 ≤ pT5 r ∧ pT5 r ≤ pT3 r) ∧ (0 ≤ pT7 r ∧ pT7 r ≤ pT5 r) ∧ (0 ≤ pT9 r ∧ pT9 r ≤ pT7 r) := by
  have a := pX_range r h0 h1
  have y := pY_range r h0 h1
  have t3 : 0 ≤ pT3 r ∧ pT3 r ≤ pX r := tst_range _ _ _ (by omega) (by omega) (by omega) (by omega)
  have t5 : 0 ≤ pT5 r ∧ pT5 r ≤ pT3 r := tst_range _ _ _ (by omega) (by omega) (by omega) (by omega)
  have t7 : 0 ≤ pT7 r ∧ pT7 r ≤ pT5 r := tst_range _ _ _ (by omega) (by omega) (by omega) (by omega)
  have t9 : 0 ≤ pT9 r ∧ pT9 r ≤ pT7 r := tst_range _ _ _ (by omega) (by omega) (by omega) (by omega)
  exact ⟨t3, t5, t7, t9⟩

theorem pC_range (r : Int) (h0 : 0 ≤ r) (h1 : r ≤ 162000) : (0 ≤ pC2 r ∧ pC2 r ≤ 392699081) ∧ (0 ≤ pC4 r ∧ pC4 r ≤ pC2 r) ∧ (0 ≤ pC6 r ∧ pC6 r ≤ pC4 r) ∧ (0 ≤ pC8 r ∧ pC8 r ≤ pC6 r) ∧ (0 ≤ pC10 r ∧ pC10 r ≤ pC8 r) := by
  have y := pY_range r h0 h1
  have c2 : 0 ≤ pC2 r ∧ pC2 r ≤ 392699081 := by unfold pC2; omega
  have c4 : 0 ≤ pC4 r ∧ pC4 r ≤ pC2 r := tst_range _ _ _ (by omega) (by omega) (by omega) (by omega)
  have c6 : 0 ≤ pC6 r ∧ pC6 r ≤ pC4 r := tst_range _ _ _ (by omega) (by omega) (by omega) (by omega)
  have c8 : 0 ≤ pC8 r ∧ pC8 r ≤ pC6 r := tst_range _ _ _ (by omega) (by omega) (by omega) (by omega)
  have c10 : 0 ≤ pC10 r ∧ pC10 r ≤ pC8 r := tst_range _ _ _ (by omega) (by omega) (by omega) (by omega)
  exact ⟨c2, c4, c6, c8, c10⟩

theorem polyP_range (r : Int) (h0 : 0 ≤ r) (h1 : r ≤ 162000) : -2000000000 ≤ polyP r ∧ polyP r ≤ 2500000000 := by
  have a := pX_range r h0 h1; have t := pT_range r h0 h1
  unfold polyP; omega

theorem polyQ_range (r : Int) (h0 : 0 ≤ r) (h1 : r ≤ 162000) : -2000000000 ≤ polyQ r ∧ polyQ r ≤ 2500000000 := by
  have t := pC_range r h0 h1
  unfold polyQ; omega

theorem spec_arc_eq (r : Int) (h0 : 0 ≤ r) (h1 : r ≤ 162000) : spec_l04Arc.f r = some (pX r, pY r) := by
  obtain ⟨a, b⟩ := pX_range r h0 h1
  have m0 : 0 ≤ pX r * pX r := Int.mul_nonneg a a
  have m1 : pX r * pX r ≤ pX r * 785398162 := Int.mul_le_mul_of_nonneg_left b a
  have e : wrap64 (Int.tdiv (wrap64 (r * 48481368)) 10000) = pX r := by
    rw [wid (r * 48481368) (by omega) (by omega), tdivP _ _ (by omega)]; exact wid (pX r) (by omega) (by omega)
  have e2 : wrap64 (Int.tdiv (wrap64 (pX r * pX r)) 1000000000) = pY r := by
    have y := pY_range r h0 h1
    rw [wid (pX r * pX r) (by omega) (by omega), tdivP _ _ m0]; exact wid (pY r) (by omega) (by omega)
  unfold spec_l04Arc.f
  rw [e, e2]

theorem spec_P_eq (r : Int) (h0 : 0 ≤ r) (h1 : r ≤ 162000) : spec_l04P.f r = some (polyP r) := by
  have a := pX_range r h0 h1; have y := pY_range r h0 h1; obtain ⟨t3, t5, t7, t9⟩ := pT_range r h0 h1
  unfold spec_l04P.f
  rw [spec_arc_eq r h0 h1]
  simp only [Option.bind_some]
  rw [tstep (pX r) (pY r) 6 (by omega) (by omega) (by omega) (by omega) (by omega), show tst (pX r) (pY r) 6 = pT3 r from rfl,
    tstep (pT3 r) (pY r) 20 (by omega) (by omega) (by omega) (by omega) (by omega), show tst (pT3 r) (pY r) 20 = pT5 r from rfl,
    tstep (pT5 r) (pY r) 42 (by omega) (by omega) (by omega) (by omega) (by omega), show tst (pT5 r) (pY r) 42 = pT7 r from rfl,
    tstep (pT7 r) (pY r) 72 (by omega) (by omega) (by omega) (by omega) (by omega), show tst (pT7 r) (pY r) 72 = pT9 r from rfl,
    wid (pX r - pT3 r) (by omega) (by omega), wid (pX r - pT3 r + pT5 r) (by omega) (by omega), wid (pX r - pT3 r + pT5 r - pT7 r) (by omega) (by omega), wid (pX r - pT3 r + pT5 r - pT7 r + pT9 r) (by omega) (by omega)]
  rfl

theorem spec_Q_eq (r : Int) (h0 : 0 ≤ r) (h1 : r ≤ 162000) : spec_l04Q.f r = some (polyQ r) := by
  have y := pY_range r h0 h1; obtain ⟨c2, c4, c6, c8, c10⟩ := pC_range r h0 h1
  have e2 : wrap64 (Int.tdiv (pY r) 2) = pC2 r := by rw [tdivP _ _ (by omega)]; exact wid (pC2 r) (by omega) (by omega)
  unfold spec_l04Q.f
  rw [spec_arc_eq r h0 h1]
  simp only [Option.bind_some]
  rw [e2, tstep (pC2 r) (pY r) 12 (by omega) (by omega) (by omega) (by omega) (by omega), show tst (pC2 r) (pY r) 12 = pC4 r from rfl,
    tstep (pC4 r) (pY r) 30 (by omega) (by omega) (by omega) (by omega) (by omega), show tst (pC4 r) (pY r) 30 = pC6 r from rfl,
    tstep (pC6 r) (pY r) 56 (by omega) (by omega) (by omega) (by omega) (by omega), show tst (pC6 r) (pY r) 56 = pC8 r from rfl,
    tstep (pC8 r) (pY r) 90 (by omega) (by omega) (by omega) (by omega) (by omega), show tst (pC8 r) (pY r) 90 = pC10 r from rfl,
    wid (1000000000 - pC2 r) (by omega) (by omega), wid (1000000000 - pC2 r + pC4 r) (by omega) (by omega), wid (1000000000 - pC2 r + pC4 r - pC6 r) (by omega) (by omega), wid (1000000000 - pC2 r + pC4 r - pC6 r + pC8 r) (by omega) (by omega), wid (1000000000 - pC2 r + pC4 r - pC6 r + pC8 r - pC10 r) (by omega) (by omega)]
  rfl

theorem impl_poly_eq (r : Int) (h0 : 0 ≤ r) (h1 : r ≤ 162000) : impl_polynomials.f r = some (polyP r, polyQ r) := by
  obtain ⟨a, b⟩ := pX_range r h0 h1
  have y := pY_range r h0 h1; obtain ⟨t3, t5, t7, t9⟩ := pT_range r h0 h1; obtain ⟨c2, c4, c6, c8, c10⟩ := pC_range r h0 h1
  have m0 : 0 ≤ pX r * pX r := Int.mul_nonneg a a
  have m1 : pX r * pX r ≤ pX r * 785398162 := Int.mul_le_mul_of_nonneg_left b a
  have e : wrap64 (Int.tdiv (wrap64 (r * 48481368)) 10000) = pX r := by
    rw [wid (r * 48481368) (by omega) (by omega), tdivP _ _ (by omega)]; exact wid (pX r) (by omega) (by omega)
  have e1 : wrap64 (Int.tdiv (wrap64 (pX r * pX r)) 1000000000) = pY r := by
    rw [wid (pX r * pX r) (by omega) (by omega), tdivP _ _ m0]; exact wid (pY r) (by omega) (by omega)
  have e2 : wrap64 (Int.tdiv (pY r) 2) = pC2 r := by rw [tdivP _ _ (by omega)]; exact wid (pC2 r) (by omega) (by omega)
  unfold impl_polynomials.f
  rw [e, e1, e2, tstep (pX r) (pY r) 6 (by omega) (by omega) (by omega) (by omega) (by omega), show tst (pX r) (pY r) 6 = pT3 r from rfl,
    tstep (pT3 r) (pY r) 20 (by omega) (by omega) (by omega) (by omega) (by omega), show tst (pT3 r) (pY r) 20 = pT5 r from rfl,
    tstep (pT5 r) (pY r) 42 (by omega) (by omega) (by omega) (by omega) (by omega), show tst (pT5 r) (pY r) 42 = pT7 r from rfl,
    tstep (pT7 r) (pY r) 72 (by omega) (by omega) (by omega) (by omega) (by omega), show tst (pT7 r) (pY r) 72 = pT9 r from rfl,
    wid (pX r - pT3 r) (by omega) (by omega), wid (pX r - pT3 r + pT5 r) (by omega) (by omega), wid (pX r - pT3 r + pT5 r - pT7 r) (by omega) (by omega), wid (pX r - pT3 r + pT5 r - pT7 r + pT9 r) (by omega) (by omega),
    tstep (pC2 r) (pY r) 12 (by omega) (by omega) (by omega) (by omega) (by omega), show tst (pC2 r) (pY r) 12 = pC4 r from rfl,
    tstep (pC4 r) (pY r) 30 (by omega) (by omega) (by omega) (by omega) (by omega), show tst (pC4 r) (pY r) 30 = pC6 r from rfl,
    tstep (pC6 r) (pY r) 56 (by omega) (by omega) (by omega) (by omega) (by omega), show tst (pC6 r) (pY r) 56 = pC8 r from rfl,
    tstep (pC8 r) (pY r) 90 (by omega) (by omega) (by omega) (by omega) (by omega), show tst (pC8 r) (pY r) 90 = pC10 r from rfl,
    wid (1000000000 - pC2 r) (by omega) (by omega), wid (1000000000 - pC2 r + pC4 r) (by omega) (by omega), wid (1000000000 - pC2 r + pC4 r - pC6 r) (by omega) (by omega), wid (1000000000 - pC2 r + pC4 r - pC6 r + pC8 r) (by omega) (by omega), wid (1000000000 - pC2 r + pC4 r - pC6 r + pC8 r - pC10 r) (by omega) (by omega)]
  rfl

/-- The sine in nano units, in the first half turn's quarters: q the quarter, r the angle within it. -/
def qsin (q r : Int) : Int := if r ≤ 162000 then (if q < 2 then polyP r else -(polyP r)) else (if q < 2 then polyQ (324000 - r) else -(polyQ (324000 - r)))

def nsin (a : Int) : Int := if a % 1296000 / 324000 % 2 = 1 then qsin (a % 1296000 / 324000) (324000 - a % 1296000 % 324000) else qsin (a % 1296000 / 324000) (a % 1296000 % 324000)

theorem qsin_range (q r : Int) (h0 : 0 ≤ r) (h1 : r ≤ 324000) : -2500000000 ≤ qsin q r ∧ qsin q r ≤ 2500000000 := by
  unfold qsin
  by_cases h : r ≤ 162000
  · have := polyP_range r h0 h
    rw [if_pos h]; by_cases c : q < 2
    · rw [if_pos c]; omega
    · rw [if_neg c]; omega
  · have := polyQ_range (324000 - r) (by omega) (by omega)
    rw [if_neg h]; by_cases c : q < 2
    · rw [if_pos c]; omega
    · rw [if_neg c]; omega

theorem nsin_range (a : Int) : -2500000000 ≤ nsin a ∧ nsin a ≤ 2500000000 := by
  unfold nsin
  by_cases h : a % 1296000 / 324000 % 2 = 1
  · rw [if_pos h]; exact qsin_range _ _ (by omega) (by omega)
  · rw [if_neg h]; exact qsin_range _ _ (by omega) (by omega)

theorem impl_nanoSine_j (k : Nat) (q r : Int) (h0 : 0 ≤ r) (h1 : r ≤ 324000) : impl_nanoSine.j0 (k + 1) q r = some (qsin q r) := by
  simp only [impl_nanoSine.j0]; unfold qsin
  by_cases h : r ≤ 162000
  · have := polyP_range r h0 h
    rw [if_pos h, if_pos h, impl_poly_eq r h0 h]; simp only [Option.bind_some]
    rw [wid (-polyP r) (by omega) (by omega), apply_ite some]
  · have := polyQ_range (324000 - r) (by omega) (by omega)
    rw [if_neg h, if_neg h, wid (324000 - r) (by omega) (by omega), impl_poly_eq (324000 - r) (by omega) (by omega)]; simp only [Option.bind_some]
    rw [wid (-polyQ (324000 - r)) (by omega) (by omega), apply_ite some]

theorem spec_l04Sine_j (k : Nat) (q r : Int) (h0 : 0 ≤ r) (h1 : r ≤ 324000) : spec_l04Sine.j0 (k + 1) q r = some (qsin q r) := by
  simp only [spec_l04Sine.j0]; unfold qsin
  by_cases h : r ≤ 162000
  · have := polyP_range r h0 h
    rw [if_pos h, if_pos h, spec_P_eq r h0 h]; simp only [Option.bind_some]
    rw [wid (-polyP r) (by omega) (by omega)]
    by_cases c : q < 2
    · rw [if_pos c, if_neg (by omega)]
    · rw [if_neg c, if_pos (by omega)]
  · have := polyQ_range (324000 - r) (by omega) (by omega)
    rw [if_neg h, if_neg h, wid (324000 - r) (by omega) (by omega), spec_Q_eq (324000 - r) (by omega) (by omega)]; simp only [Option.bind_some]
    rw [wid (-polyQ (324000 - r)) (by omega) (by omega)]
    by_cases c : q < 2
    · rw [if_pos c, if_neg (by omega)]
    · rw [if_neg c, if_pos (by omega)]

theorem impl_nanoSine_eq (k : Nat) (a : Int) (h0 : -9000000000000000000 ≤ a) (h1 : a ≤ 9000000000000000000) : impl_nanoSine.f (k + 1) a = some (nsin a) := by
  unfold impl_nanoSine.f nsin
  rw [impl_plain_eq a h0 h1]; simp only [Option.bind_some]
  rw [tdivP _ _ (show 0 ≤ a % 1296000 by omega), tmodP _ _ (show 0 ≤ a % 1296000 by omega), wid (a % 1296000 / 324000) (by omega) (by omega), tmodP _ _ (show 0 ≤ a % 1296000 / 324000 by omega), wid (324000 - a % 1296000 % 324000) (by omega) (by omega),
    impl_nanoSine_j k _ _ (by omega) (by omega), impl_nanoSine_j k _ _ (by omega) (by omega), apply_ite some]

theorem spec_nanoSine_eq (k : Nat) (a : Int) : spec_l04Sine.f (k + 1) a = some (nsin a) := by
  unfold spec_l04Sine.f nsin
  rw [spec_plain_eq a]; simp only [Option.bind_some]
  rw [tdivP _ _ (show 0 ≤ a % 1296000 by omega), tmodP _ _ (show 0 ≤ a % 1296000 by omega), wid (a % 1296000 / 324000) (by omega) (by omega), tmodP _ _ (show 0 ≤ a % 1296000 / 324000 by omega), wid (324000 - a % 1296000 % 324000) (by omega) (by omega),
    spec_l04Sine_j k _ _ (by omega) (by omega), spec_l04Sine_j k _ _ (by omega) (by omega), apply_ite some]

abbrev isV (a : Int) : Prop := -1000000000000 ≤ a ∧ a ≤ 1000000000000

theorem spec_NanoSine_eq (k : Nat) (a : Int) : spec_NanoSine.f (k + 1) a = some (if isV a then (nsin a, 0) else (0, 2)) := by
  unfold spec_NanoSine.f; rw [spec_is_eq, bind_dec, spec_nanoSine_eq]; simp only [Option.bind_some]; rw [apply_ite some]

theorem impl_NanoSine_eq (k : Nat) (a : Int) : impl_NanoSine.f (k + 1) a = some (if isV a then (nsin a, 0) else (0, 2)) := by
  unfold impl_NanoSine.f; rw [impl_isValue_eq, bind_dec]
  by_cases h : isV a
  · rw [if_pos h, if_pos h, impl_nanoSine_eq k a (by omega) (by omega)]; rfl
  · rw [if_neg h, if_neg h]

def sLo (n : Int) : Int := (n - 60) / 1000

def sHi (n : Int) : Int := -((-(n + 60)) / 1000)

theorem spec_interval_eq (n : Int) (h0 : -4000000000000000000 ≤ n) (h1 : n ≤ 4000000000000000000) : spec_l04Interval.f n = some (sLo n, sHi n) := by
  unfold spec_l04Interval.f sLo sHi
  rw [wid (n - 60) (by omega) (by omega), wid (n + 60) (by omega) (by omega), spec_floor_pos _ _ (by omega) (by omega) (by omega), spec_ceil_eq _ _ (by omega) (by omega) (by omega) (by omega), flr_pos _ _ (by omega)]; rfl

theorem impl_sine_eq (k : Nat) (a : Int) (h0 : -9000000000000000000 ≤ a) (h1 : a ≤ 9000000000000000000) : impl_sine.f (k + 1) a = some (sLo (nsin a), sHi (nsin a)) := by
  have := nsin_range a
  unfold impl_sine.f sLo sHi
  rw [impl_nanoSine_eq k a h0 h1]; simp only [Option.bind_some]
  rw [wid (nsin a - 60) (by omega) (by omega), wid (nsin a + 60) (by omega) (by omega), impl_floor_pos _ _ (by omega) (by omega) (by omega), impl_ceil_eq _ _ (by omega) (by omega) (by omega), flr_pos _ _ (by omega)]; rfl

theorem spec_sin_eq (k : Nat) (a : Int) : spec_l04Sin.f (k + 1) a = some (sLo (nsin a), sHi (nsin a)) := by
  have := nsin_range a
  unfold spec_l04Sin.f
  rw [spec_nanoSine_eq k a]; simp only [Option.bind_some]
  rw [spec_interval_eq _ (by omega) (by omega)]; rfl

theorem impl_cosine_eq (k : Nat) (a : Int) (h0 : -8000000000000000000 ≤ a) (h1 : a ≤ 8000000000000000000) : impl_cosine.f (k + 1) a = some (sLo (nsin (a + 324000)), sHi (nsin (a + 324000))) := by
  unfold impl_cosine.f; rw [wid _ (by omega) (by omega), impl_sine_eq k _ (by omega) (by omega)]; rfl

theorem spec_nanoCosine_eq (k : Nat) (a : Int) (h0 : -8000000000000000000 ≤ a) (h1 : a ≤ 8000000000000000000) : spec_l04Cosine.f (k + 1) a = some (nsin (a + 324000)) := by
  unfold spec_l04Cosine.f; rw [wid _ (by omega) (by omega), spec_nanoSine_eq k]; rfl

theorem spec_cos_eq (k : Nat) (a : Int) (h0 : -8000000000000000000 ≤ a) (h1 : a ≤ 8000000000000000000) : spec_l04Cos.f (k + 1) a = some (sLo (nsin (a + 324000)), sHi (nsin (a + 324000))) := by
  have := nsin_range (a + 324000)
  unfold spec_l04Cos.f; rw [spec_nanoCosine_eq k a h0 h1]; simp only [Option.bind_some]
  rw [spec_interval_eq _ (by omega) (by omega)]; rfl

theorem spec_SineOf_eq (k : Nat) (a : Int) : spec_SineOf.f (k + 1) a = some (if isV a then (sLo (nsin a), sHi (nsin a), 0) else (0, 0, 2)) := by
  unfold spec_SineOf.f; rw [spec_is_eq, bind_dec, spec_sin_eq k]; simp only [Option.bind_some]; rw [apply_ite some]

theorem impl_SineOf_eq (k : Nat) (a : Int) : impl_SineOf.f (k + 1) a = some (if isV a then (sLo (nsin a), sHi (nsin a), 0) else (0, 0, 2)) := by
  unfold impl_SineOf.f; rw [impl_isValue_eq, bind_dec]
  by_cases h : isV a
  · rw [if_pos h, if_pos h, impl_sine_eq k a (by omega) (by omega)]; rfl
  · rw [if_neg h, if_neg h]

theorem spec_CosineOf_eq (k : Nat) (a : Int) : spec_CosineOf.f (k + 1) a = some (if isV a then (sLo (nsin (a + 324000)), sHi (nsin (a + 324000)), 0) else (0, 0, 2)) := by
  unfold spec_CosineOf.f; rw [spec_is_eq, bind_dec]
  by_cases h : isV a
  · rw [if_pos h, if_pos h, spec_cos_eq k a (by omega) (by omega)]; rfl
  · rw [if_neg h, if_neg h]

theorem impl_CosineOf_eq (k : Nat) (a : Int) : impl_CosineOf.f (k + 1) a = some (if isV a then (sLo (nsin (a + 324000)), sHi (nsin (a + 324000)), 0) else (0, 0, 2)) := by
  unfold impl_CosineOf.f; rw [impl_isValue_eq, bind_dec]
  by_cases h : isV a
  · rw [if_pos h, if_pos h, impl_cosine_eq k a (by omega) (by omega)]; rfl
  · rw [if_neg h, if_neg h]

/-- A source of draws over the code l: how many of its bytes are used, and its seed. -/
def src (l : List Int) (t s : Int) : Prop := (0 ≤ t ∧ t ≤ (l.length : Int)) ∧ (l.length ≤ 4096 ∧ ∀ x ∈ l, 0 ≤ x ∧ x ≤ 255) ∧ (0 ≤ s ∧ s < 2147483647)

theorem rd_byte (l : List Int) (h : ∀ x ∈ l, 0 ≤ x ∧ x ≤ 255) (i : Int) : 0 ≤ rd l i ∧ rd l i ≤ 255 := by
  unfold rd
  by_cases c : i.toNat < l.length
  · rw [List.getD_eq_getElem?_getD, List.getElem?_eq_getElem c]; exact h _ (List.getElem_mem c)
  · rw [List.getD_eq_getElem?_getD, List.getElem?_eq_none (by omega)]; simp

theorem from_loop (l : List Int) (hl : l.length ≤ 4096) (hb : ∀ x ∈ l, 0 ≤ x ∧ x ≤ 255) : ∀ (d : Nat) (i s : Int), 0 ≤ i → 64 - i ≤ d → 0 ≤ s → s < 2147483647 →
    ∃ s', (0 ≤ s' ∧ s' < 2147483647) ∧ ∀ k, d < k → spec_l01From.l0 k l i l 0 s = some (l, 0, s') := by
  intro d
  induction d with
  | zero =>
    intro i s h0 h1 h2 h3
    refine ⟨s, ⟨h2, h3⟩, fun k hk => ?_⟩
    obtain ⟨k, rfl⟩ : ∃ z, k = z + 1 := ⟨k - 1, by omega⟩
    simp only [spec_l01From.l0]
    by_cases c : i < (l.length : Int)
    · rw [if_pos c, if_neg (by omega)]
    · rw [if_neg c]
  | succ d ih =>
    intro i s h0 h1 h2 h3
    by_cases c : i < (l.length : Int)
    · by_cases c2 : i < 64
      · have hr := rd_byte l hb i
        have e1 : wrap64 (s * 71) = s * 71 := wid _ (by omega) (by omega)
        have e2 : wrap64 (rd l i) = rd l i := wid _ (by omega) (by omega)
        have e3 : wrap64 (s * 71 + rd l i) = s * 71 + rd l i := wid _ (by omega) (by omega)
        have e4 : Int.tmod (s * 71 + rd l i) 2147483647 = (s * 71 + rd l i) % 2147483647 := tmodP _ _ (by omega)
        obtain ⟨s', hs, hk⟩ := ih (i + 1) ((s * 71 + rd l i) % 2147483647) (by omega) (by omega) (by omega) (by omega)
        refine ⟨s', hs, fun k hk' => ?_⟩
        obtain ⟨k, rfl⟩ : ∃ z, k = z + 1 := ⟨k - 1, by omega⟩
        simp only [spec_l01From.l0]
        rw [if_pos c, if_pos c2, if_pos h0, e1, e2, e3, e4, wid (i + 1) (by omega) (by omega)]
        exact hk k (by omega)
      · refine ⟨s, ⟨h2, h3⟩, fun k hk => ?_⟩
        obtain ⟨k, rfl⟩ : ∃ z, k = z + 1 := ⟨k - 1, by omega⟩
        simp only [spec_l01From.l0]; rw [if_pos c, if_neg c2]
    · refine ⟨s, ⟨h2, h3⟩, fun k hk => ?_⟩
      obtain ⟨k, rfl⟩ : ∃ z, k = z + 1 := ⟨k - 1, by omega⟩
      simp only [spec_l01From.l0]; rw [if_neg c]

theorem from_eq (l : List Int) (hl : l.length ≤ 4096) (hb : ∀ x ∈ l, 0 ≤ x ∧ x ≤ 255) : ∃ s, src l 0 s ∧ ∀ k, 64 < k → spec_l01From.f k l = some (l, 0, s) := by
  obtain ⟨s, hs, hk⟩ := from_loop l hl hb 64 0 21013 (by omega) (by omega) (by omega) (by omega)
  exact ⟨s, ⟨⟨by omega, by omega⟩, ⟨hl, hb⟩, hs⟩, hk⟩

theorem next_eq {l : List Int} {t s : Int} (h : src l t s) (n : Int) (hn : n ≤ 1000000000000000000) : ∃ v t' s', spec_l01Next.f l t s n = some (v, t', s') ∧ src l t' s' ∧ 0 ≤ v ∧ (v < n ∨ v = 0 ∧ n ≤ 1) := by
  obtain ⟨⟨t0, t1⟩, ⟨l0, l1⟩, s0, s1⟩ := h
  unfold spec_l01Next.f
  by_cases c : n ≤ 1
  · rw [if_pos c]; exact ⟨0, t, s, rfl, ⟨⟨t0, t1⟩, ⟨l0, l1⟩, s0, s1⟩, by omega, .inr ⟨rfl, c⟩⟩
  · have e1 : wrap64 (s * 48271) = s * 48271 := wid _ (by omega) (by omega)
    have e2 : wrap64 (s * 48271 + 29) = s * 48271 + 29 := wid _ (by omega) (by omega)
    have e3 : Int.tmod (s * 48271 + 29) 2147483647 = (s * 48271 + 29) % 2147483647 := tmodP _ _ (by omega)
    rw [if_neg c, e1, e2, e3]
    generalize hq : (s * 48271 + 29) % 2147483647 = q
    have q0 : 0 ≤ q ∧ q < 2147483647 := by omega
    have e4 : wrap64 (Int.tdiv q 31) = q / 31 := by rw [tdivP _ _ q0.1]; exact wid _ (by omega) (by omega)
    have n0 : ¬ n = 0 := by omega
    rw [e4]
    have hm : ∀ x : Int, 0 ≤ x → 0 ≤ Int.tmod x n ∧ Int.tmod x n < n := by
      intro x hx
      rw [tmodP _ _ hx]; exact ⟨Int.emod_nonneg _ (by omega), Int.emod_lt_of_pos _ (by omega)⟩
    by_cases c1 : t < (l.length : Int)
    · have hr := rd_byte l l1 t
      have e5 : wrap64 (t + 1) = t + 1 := wid _ (by omega) (by omega)
      have e6 : wrap64 (rd l t) = rd l t := wid _ (by omega) (by omega)
      have e7 : wrap64 (q / 31 + rd l t) = q / 31 + rd l t := wid _ (by omega) (by omega)
      have e8 : wrap64 (t + 1 - 1) = t := by rw [show t + 1 - 1 = t by omega]; exact wid _ (by omega) (by omega)
      rw [if_pos c1, if_pos t0, e5, e8, e6, e7, if_neg n0, if_neg n0, if_pos t0, if_pos c1]
      have hs' : src l (t + 1) q := ⟨⟨by omega, by omega⟩, ⟨l0, l1⟩, q0.1, q0.2⟩
      have a1 := hm (rd l t) hr.1
      have a2 := hm (q / 31 + rd l t) (by omega)
      by_cases c2 : n ≤ 256
      · rw [if_pos c2]
        by_cases c3 : Int.tmod (t + 1) 2 = 0
        · rw [if_pos c3]; exact ⟨_, _, _, rfl, hs', a1.1, .inl a1.2⟩
        · rw [if_neg c3]; exact ⟨_, _, _, rfl, hs', a2.1, .inl a2.2⟩
      · rw [if_neg c2]; exact ⟨_, _, _, rfl, hs', a2.1, .inl a2.2⟩
    · have a3 := hm (q / 31) (by omega)
      rw [if_neg c1, if_neg n0]; exact ⟨_, _, _, rfl, ⟨⟨t0, t1⟩, ⟨l0, l1⟩, q0.1, q0.2⟩, a3.1, .inl a3.2⟩

theorem pick_eq {l : List Int} {t s : Int} (h : src l t s) (xs : List Int) (h1 : 0 < xs.length) (h2 : xs.length ≤ 100) : ∃ v t' s', spec_l01Pick.f l t s xs = some (v, t', s') ∧ src l t' s' ∧ v ∈ xs := by
  obtain ⟨v, t', s', e, hs, v0, v1⟩ := next_eq h (xs.length : Int) (by omega)
  unfold spec_l01Pick.f
  rw [e]; simp only [Option.bind_some]
  have hv : v < (xs.length : Int) := by omega
  rw [if_pos v0, if_pos hv]
  refine ⟨_, _, _, rfl, hs, ?_⟩
  unfold rd
  have hlt : v.toNat < xs.length := by omega
  rw [List.getD_eq_getElem?_getD, List.getElem?_eq_getElem hlt]; exact List.getElem_mem hlt

theorem drawValue_eq {l : List Int} {t s : Int} (h : src l t s) : ∃ v t' s', spec_l01DrawValue.f l t s = some (v, t', s') ∧ src l t' s' ∧ -2000000000000 ≤ v ∧ v ≤ 2000000000000 := by
  unfold spec_l01DrawValue.f
  obtain ⟨v1, t1, s1, e1, h1, b1, _⟩ := next_eq h 10 (by omega)
  rw [e1]; simp only [Option.bind_some]
  by_cases c : v1 = 0
  · obtain ⟨v2, t2, s2, e2, h2, m2⟩ := pick_eq h1 [0, 1000000000000, 1000000000001, (-1000000000000), (-1000000000001), 1] (by simp) (by simp)
    rw [if_pos c, e2]; simp only [Option.bind_some]
    refine ⟨v2, t2, s2, rfl, h2, ?_⟩
    simp only [List.mem_cons, List.not_mem_nil, or_false] at m2; omega
  · obtain ⟨v2, t2, s2, e2, h2, b2, c2⟩ := next_eq h1 41 (by omega)
    obtain ⟨v3, t3, s3, e3, h3, b3, c3⟩ := next_eq h2 2001 (by omega)
    obtain ⟨v4, t4, s4, e4, h4, b4, c4⟩ := next_eq h3 2000000001 (by omega)
    rw [if_neg c, e2]; simp only [Option.bind_some]
    rw [e3]; simp only [Option.bind_some]
    rw [e4]; simp only [Option.bind_some]
    rw [wid (v2 - 20) (by omega) (by omega), wid (v3 - 1000) (by omega) (by omega), wid (v4 - 1000000000) (by omega) (by omega)]
    obtain ⟨v5, t5, s5, e5, h5, m5⟩ := pick_eq h4 [v2 - 20, v3 - 1000, v4 - 1000000000] (by simp) (by simp)
    rw [e5]; simp only [Option.bind_some]
    refine ⟨v5, t5, s5, rfl, h5, ?_⟩
    simp only [List.mem_cons, List.not_mem_nil, or_false] at m5; omega

theorem l03Draw_eq {l : List Int} {t s : Int} (h : src l t s) : ∃ v t' s', spec_l03Draw.f l t s = some (v, t', s') ∧ src l t' s' ∧ -2000000000000 ≤ v ∧ v ≤ 2000000000000 := by
  unfold spec_l03Draw.f
  obtain ⟨v1, t1, s1, e1, h1, b1, _⟩ := next_eq h 12 (by omega)
  rw [e1]; simp only [Option.bind_some]
  by_cases c : v1 = 0
  · obtain ⟨v2, t2, s2, e2, h2, m2⟩ := pick_eq h1 [0, 648000, (-648000), 1296000, 324000, 1295999, 647999] (by simp) (by simp)
    rw [if_pos c, e2]; simp only [Option.bind_some]
    refine ⟨v2, t2, s2, rfl, h2, ?_⟩
    simp only [List.mem_cons, List.not_mem_nil, or_false] at m2; omega
  · rw [if_neg c]
    by_cases d : v1 = 1
    · obtain ⟨v2, t2, s2, e2, h2, m2⟩ := drawValue_eq h1
      rw [if_pos d, e2]; simp only [Option.bind_some]
      exact ⟨v2, t2, s2, rfl, h2, m2⟩
    · obtain ⟨v2, t2, s2, e2, h2, b2, c2⟩ := next_eq h1 1296000 (by omega)
      obtain ⟨v3, t3, s3, e3, h3, b3, c3⟩ := next_eq h2 3888000 (by omega)
      obtain ⟨v4, t4, s4, e4, h4, b4, c4⟩ := next_eq h3 721 (by omega)
      rw [if_neg d, e2]; simp only [Option.bind_some]
      rw [e3]; simp only [Option.bind_some]
      rw [e4]; simp only [Option.bind_some]
      rw [wid (v3 - 1296000) (by omega) (by omega), wid (v4 - 360) (by omega) (by omega), wid (3600 * (v4 - 360)) (by omega) (by omega)]
      obtain ⟨v5, t5, s5, e5, h5, m5⟩ := pick_eq h4 [v2, v3 - 1296000, 3600 * (v4 - 360)] (by simp) (by simp)
      rw [e5]; simp only [Option.bind_some]
      refine ⟨v5, t5, s5, rfl, h5, ?_⟩
      simp only [List.mem_cons, List.not_mem_nil, or_false] at m5; omega

/-- What the laws over a code take of it. -/
theorem code_bytes {l : List Int} (h : ∀ x ∈ l, (Lit.int .u8 x).wf = true) : ∀ x ∈ l, 0 ≤ x ∧ x ≤ 255 := by
  intro x hx
  have := h x hx
  simp [Lit.wf, IntKind.min, IntKind.max, IntKind.signed, IntKind.bits] at this
  omega

theorem big_eq (l : List Int) : laws_big.f l = some (decide ((l.length : Int) > 4096)) := rfl

theorem drawNano_eq (l : List Int) (hl : l.length ≤ 4096) (hb : ∀ x ∈ l, 0 ≤ x ∧ x ≤ 255) : ∃ a, ∀ k, 64 < k → spec_DrawNanoSine.f k l = some a := by
  obtain ⟨s, hs, hf⟩ := from_eq l hl hb
  obtain ⟨v1, t1, s1, e1, h1, b1⟩ := l03Draw_eq hs
  refine ⟨v1, fun k hk => ?_⟩
  unfold spec_DrawNanoSine.f
  rw [hf k hk]; simp only [Option.bind_some]
  rw [e1]; rfl

theorem drawSine_eq (l : List Int) (hl : l.length ≤ 4096) (hb : ∀ x ∈ l, 0 ≤ x ∧ x ≤ 255) : ∃ a, ∀ k, 64 < k → spec_DrawSineOf.f k l = some a := by
  obtain ⟨s, hs, hf⟩ := from_eq l hl hb
  obtain ⟨v1, t1, s1, e1, h1, b1⟩ := l03Draw_eq hs
  refine ⟨v1, fun k hk => ?_⟩
  unfold spec_DrawSineOf.f
  rw [hf k hk]; simp only [Option.bind_some]
  rw [e1]; rfl

/-- Whether the squares of sine and cosine add up, for one angle, in natural numbers. -/
def sqN (r : Nat) : Bool :=
  (fun x => (fun y => (fun t3 => (fun t5 => (fun t7 => (fun t9 => (fun c2 => (fun c4 => (fun c6 => (fun c8 => (fun c10 =>
    (fun p pn q qn => Nat.ble pn p && (Nat.ble qn q && (Nat.ble ((p - pn) * (p - pn) + (q - qn) * (q - qn)) 1000000400000000000 && Nat.ble 999999600000000000 ((p - pn) * (p - pn) + (q - qn) * (q - qn)))))
      (x + t5 + t9) (t3 + t7) (1000000000 + c4 + c8) (c2 + c6 + c10)) (c8 * y / 1000000000 / 90)) (c6 * y / 1000000000 / 56)) (c4 * y / 1000000000 / 30)) (c2 * y / 1000000000 / 12)) (y / 2)) (t7 * y / 1000000000 / 72)) (t5 * y / 1000000000 / 42)) (t3 * y / 1000000000 / 20)) (x * y / 1000000000 / 6)) (x * x / 1000000000)) (r * 48481368 / 10000)

def allN (f : Nat → Bool) : Nat → Nat → Bool
  | 0, lo => f lo
  | n + 1, lo => allN f n lo && allN f n (lo + 2 ^ n)

theorem allN_sound (f : Nat → Bool) : ∀ (n lo : Nat), allN f n lo = true → ∀ r, lo ≤ r → r < lo + 2 ^ n → f r = true
  | 0, lo, h, r, h0, h1 => by
    have : r = lo := by simp at h1; omega
    subst this; exact h
  | n + 1, lo, h, r, h0, h1 => by
    simp only [allN, Bool.and_eq_true] at h
    have e : 2 ^ (n + 1) = 2 ^ n + 2 ^ n := by rw [Nat.pow_succ]; omega
    by_cases c : r < lo + 2 ^ n
    · exact allN_sound f n lo h.1 r h0 c
    · exact allN_sound f n (lo + 2 ^ n) h.2 r (by omega) (by omega)

theorem sq0 : allN sqN 14 0 = true := by decide +kernel

theorem sq1 : allN sqN 14 16384 = true := by decide +kernel

theorem sq2 : allN sqN 14 32768 = true := by decide +kernel

theorem sq3 : allN sqN 14 49152 = true := by decide +kernel

theorem sq4 : allN sqN 14 65536 = true := by decide +kernel

theorem sq5 : allN sqN 14 81920 = true := by decide +kernel

theorem sq6 : allN sqN 14 98304 = true := by decide +kernel

theorem sq7 : allN sqN 14 114688 = true := by decide +kernel

theorem sq8 : allN sqN 14 131072 = true := by decide +kernel

theorem sq9 : allN sqN 14 147456 = true := by decide +kernel

theorem sq_all (r : Nat) (h : r ≤ 162000) : sqN r = true := by
  have p : 2 ^ 14 = 16384 := by decide
  rcases Nat.lt_or_ge r 16384 with a | a
  · exact allN_sound _ _ _ sq0 r (by omega) (by omega)
  rcases Nat.lt_or_ge r 32768 with b | b
  · exact allN_sound _ _ _ sq1 r (by omega) (by omega)
  rcases Nat.lt_or_ge r 49152 with c | c
  · exact allN_sound _ _ _ sq2 r (by omega) (by omega)
  rcases Nat.lt_or_ge r 65536 with d | d
  · exact allN_sound _ _ _ sq3 r (by omega) (by omega)
  rcases Nat.lt_or_ge r 81920 with e | e
  · exact allN_sound _ _ _ sq4 r (by omega) (by omega)
  rcases Nat.lt_or_ge r 98304 with f | f
  · exact allN_sound _ _ _ sq5 r (by omega) (by omega)
  rcases Nat.lt_or_ge r 114688 with g | g
  · exact allN_sound _ _ _ sq6 r (by omega) (by omega)
  rcases Nat.lt_or_ge r 131072 with i | i
  · exact allN_sound _ _ _ sq7 r (by omega) (by omega)
  rcases Nat.lt_or_ge r 147456 with j | j
  · exact allN_sound _ _ _ sq8 r (by omega) (by omega)
  · exact allN_sound _ _ _ sq9 r (by omega) (by omega)

theorem tst_nat (T Y d : Nat) : tst (T : Int) (Y : Int) (d : Int) = ((T * Y / 1000000000 / d : Nat) : Int) := by
  unfold tst; simp only [Int.natCast_ediv, Int.natCast_mul]; rfl

theorem squares (r : Nat) (h : r ≤ 162000) : 999999600000000000 ≤ polyP r * polyP r + polyQ r * polyQ r ∧ polyP r * polyP r + polyQ r * polyQ r ≤ 1000000400000000000 ∧ 0 ≤ polyP r ∧ 0 ≤ polyQ r := by
  have k := sq_all r h
  unfold sqN at k
  simp only [] at k
  generalize hx : r * 48481368 / 10000 = x at k
  generalize hy : x * x / 1000000000 = y at k
  generalize h3 : x * y / 1000000000 / 6 = t3 at k
  generalize h5 : t3 * y / 1000000000 / 20 = t5 at k
  generalize h7 : t5 * y / 1000000000 / 42 = t7 at k
  generalize h9 : t7 * y / 1000000000 / 72 = t9 at k
  generalize g2 : y / 2 = c2 at k
  generalize g4 : c2 * y / 1000000000 / 12 = c4 at k
  generalize g6 : c4 * y / 1000000000 / 30 = c6 at k
  generalize g8 : c6 * y / 1000000000 / 56 = c8 at k
  generalize g10 : c8 * y / 1000000000 / 90 = c10 at k
  simp only [Bool.and_eq_true, Nat.ble_eq] at k
  obtain ⟨k1, k2, k3, k4⟩ := k
  have ex : pX r = (x : Int) := by unfold pX; omega
  have ey : pY r = (y : Int) := by unfold pY; rw [ex, ← hy]; simp only [Int.natCast_ediv, Int.natCast_mul]; rfl
  have e3 : pT3 r = (t3 : Int) := by unfold pT3; rw [ex, ey, ← h3]; exact tst_nat x y 6
  have e5 : pT5 r = (t5 : Int) := by unfold pT5; rw [e3, ey, ← h5]; exact tst_nat t3 y 20
  have e7 : pT7 r = (t7 : Int) := by unfold pT7; rw [e5, ey, ← h7]; exact tst_nat t5 y 42
  have e9 : pT9 r = (t9 : Int) := by unfold pT9; rw [e7, ey, ← h9]; exact tst_nat t7 y 72
  have d2 : pC2 r = (c2 : Int) := by unfold pC2; rw [ey]; omega
  have d4 : pC4 r = (c4 : Int) := by unfold pC4; rw [d2, ey, ← g4]; exact tst_nat c2 y 12
  have d6 : pC6 r = (c6 : Int) := by unfold pC6; rw [d4, ey, ← g6]; exact tst_nat c4 y 30
  have d8 : pC8 r = (c8 : Int) := by unfold pC8; rw [d6, ey, ← g8]; exact tst_nat c6 y 56
  have d10 : pC10 r = (c10 : Int) := by unfold pC10; rw [d8, ey, ← g10]; exact tst_nat c8 y 90
  have eP : polyP r = ((x + t5 + t9 - (t3 + t7) : Nat) : Int) := by unfold polyP; rw [ex, e3, e5, e7, e9]; omega
  have eQ : polyQ r = ((1000000000 + c4 + c8 - (c2 + c6 + c10) : Nat) : Int) := by unfold polyQ; rw [d2, d4, d6, d8, d10]; omega
  rw [eP, eQ]
  generalize x + t5 + t9 - (t3 + t7) = A at k3 k4
  generalize 1000000000 + c4 + c8 - (c2 + c6 + c10) = B at k3 k4
  refine ⟨?_, ?_, by omega, by omega⟩
  · rw [← Int.natCast_mul, ← Int.natCast_mul, ← Int.natCast_add]; exact Int.ofNat_le.2 k4
  · rw [← Int.natCast_mul, ← Int.natCast_mul, ← Int.natCast_add]; exact Int.ofNat_le.2 k3

def sS (x : Int) : Int := if x ≤ 162000 then polyP x else polyQ (324000 - x)

theorem qsin_low (q x : Int) (h : q < 2) : qsin q x = sS x := by unfold qsin sS; rw [if_pos h, if_pos h]

theorem qsin_high (q x : Int) (h : ¬ q < 2) : qsin q x = -(sS x) := by
  unfold qsin sS; rw [if_neg h, if_neg h]; split <;> rfl

theorem sS_zero : sS 0 = 0 := by decide

/-- The sine by the quarter and the angle within it. -/
theorem nsin_quarter (a q r : Int) (hq : 0 ≤ q ∧ q ≤ 3) (hr : 0 ≤ r ∧ r < 324000) (h : a % 1296000 = 324000 * q + r) :
    nsin a = if q = 0 then sS r else if q = 1 then sS (324000 - r) else if q = 2 then -(sS r) else -(sS (324000 - r)) := by
  have e1 : a % 1296000 / 324000 = q := by omega
  have e2 : a % 1296000 % 324000 = r := by omega
  unfold nsin; rw [e1, e2]
  by_cases h0 : q = 0
  · rw [if_pos h0, if_neg (by omega), qsin_low _ _ (by omega)]
  · by_cases h1 : q = 1
    · rw [if_neg h0, if_pos h1, if_pos (by omega), qsin_low _ _ (by omega)]
    · by_cases h2 : q = 2
      · rw [if_neg h0, if_neg h1, if_pos h2, if_neg (by omega), qsin_high _ _ (by omega)]
      · rw [if_neg h0, if_neg h1, if_neg h2, if_pos (by omega), qsin_high _ _ (by omega)]

theorem quarter_of (a : Int) : ∃ q r, (0 ≤ q ∧ q ≤ 3) ∧ (0 ≤ r ∧ r < 324000) ∧ a % 1296000 = 324000 * q + r := ⟨a % 1296000 / 324000, a % 1296000 % 324000, by omega, by omega, by omega⟩

theorem nsin_neg (a : Int) : nsin (-a) = -(nsin a) := by
  obtain ⟨q, r, hq, hr, h⟩ := quarter_of a
  rw [nsin_quarter a q r hq hr h]
  have hc : q = 0 ∨ q = 1 ∨ q = 2 ∨ q = 3 := by omega
  by_cases r0 : r = 0
  · subst r0
    rcases hc with rfl | rfl | rfl | rfl
    · rw [nsin_quarter (-a) 0 0 (by omega) (by omega) (by omega)]; simp [sS_zero]
    · rw [nsin_quarter (-a) 3 0 (by omega) (by omega) (by omega)]; simp
    · rw [nsin_quarter (-a) 2 0 (by omega) (by omega) (by omega)]; simp [sS_zero]
    · rw [nsin_quarter (-a) 1 0 (by omega) (by omega) (by omega)]; simp
  · have e : 324000 - (324000 - r) = r := by omega
    rcases hc with rfl | rfl | rfl | rfl
    · rw [nsin_quarter (-a) 3 (324000 - r) (by omega) (by omega) (by omega)]; simp [e]
    · rw [nsin_quarter (-a) 2 (324000 - r) (by omega) (by omega) (by omega)]; simp
    · rw [nsin_quarter (-a) 1 (324000 - r) (by omega) (by omega) (by omega)]; simp [e]
    · rw [nsin_quarter (-a) 0 (324000 - r) (by omega) (by omega) (by omega)]; simp

theorem nsin_half (a : Int) : nsin (648000 - a) = nsin a := by
  obtain ⟨q, r, hq, hr, h⟩ := quarter_of a
  rw [nsin_quarter a q r hq hr h]
  have hc : q = 0 ∨ q = 1 ∨ q = 2 ∨ q = 3 := by omega
  by_cases r0 : r = 0
  · subst r0
    rcases hc with rfl | rfl | rfl | rfl
    · rw [nsin_quarter (648000 - a) 2 0 (by omega) (by omega) (by omega)]; simp [sS_zero]
    · rw [nsin_quarter (648000 - a) 1 0 (by omega) (by omega) (by omega)]
    · rw [nsin_quarter (648000 - a) 0 0 (by omega) (by omega) (by omega)]; simp [sS_zero]
    · rw [nsin_quarter (648000 - a) 3 0 (by omega) (by omega) (by omega)]
  · have e : 324000 - (324000 - r) = r := by omega
    rcases hc with rfl | rfl | rfl | rfl
    · rw [nsin_quarter (648000 - a) 1 (324000 - r) (by omega) (by omega) (by omega)]; simp [e]
    · rw [nsin_quarter (648000 - a) 0 (324000 - r) (by omega) (by omega) (by omega)]; simp
    · rw [nsin_quarter (648000 - a) 3 (324000 - r) (by omega) (by omega) (by omega)]; simp [e]
    · rw [nsin_quarter (648000 - a) 2 (324000 - r) (by omega) (by omega) (by omega)]; simp

theorem sS_squares (x : Int) (h0 : 0 ≤ x) (h1 : x ≤ 324000) : 999999600000000000 ≤ sS x * sS x + sS (324000 - x) * sS (324000 - x) ∧ sS x * sS x + sS (324000 - x) * sS (324000 - x) ≤ 1000000400000000000 := by
  have e : 324000 - (324000 - x) = x := by omega
  unfold sS; rw [e]
  by_cases c : x ≤ 162000
  · rw [if_pos c]
    by_cases d : 324000 - x ≤ 162000
    · obtain rfl : x = 162000 := by omega
      rw [if_pos d]
      have : polyP 162000 = 707106781 := by decide
      rw [show (324000 : Int) - 162000 = 162000 by omega, this]; omega
    · rw [if_neg d]
      have := squares x.toNat (by omega)
      rw [show ((x.toNat : Nat) : Int) = x by omega] at this
      exact ⟨this.1, this.2.1⟩
  · rw [if_neg c, if_pos (by omega)]
    have := squares (324000 - x).toNat (by omega)
    rw [show (((324000 - x).toNat : Nat) : Int) = 324000 - x by omega] at this
    omega

theorem nsin_squares (a : Int) : 999999600000000000 ≤ nsin a * nsin a + nsin (a + 324000) * nsin (a + 324000) ∧ nsin a * nsin a + nsin (a + 324000) * nsin (a + 324000) ≤ 1000000400000000000 := by
  obtain ⟨q, r, hq, hr, h⟩ := quarter_of a
  have hc : q = 0 ∨ q = 1 ∨ q = 2 ∨ q = 3 := by omega
  have k1 := sS_squares r (by omega) (by omega)
  have k2 := sS_squares (324000 - r) (by omega) (by omega)
  rw [show 324000 - (324000 - r) = r by omega] at k2
  rw [nsin_quarter a q r hq hr h]
  rcases hc with rfl | rfl | rfl | rfl
  · rw [nsin_quarter (a + 324000) 1 r (by omega) hr (by omega)]; simpa using k1
  · rw [nsin_quarter (a + 324000) 2 r (by omega) hr (by omega)]; simpa [Int.neg_mul_neg] using k2
  · rw [nsin_quarter (a + 324000) 3 r (by omega) hr (by omega)]; simpa [Int.neg_mul_neg] using k1
  · rw [nsin_quarter (a + 324000) 0 r (by omega) hr (by omega)]; simpa [Int.neg_mul_neg] using k2

theorem sine_width (n : Int) : sHi n - sLo n ≤ 2 ∧ -3 ≤ sHi n - sLo n := by unfold sHi sLo; omega
theorem sq_nonneg' (x : Int) : 0 ≤ x * x := by
  by_cases h : 0 ≤ x
  · exact Int.mul_nonneg h h
  · have := Int.mul_nonneg (show 0 ≤ -x by omega) (show 0 ≤ -x by omega)
    rwa [Int.neg_mul_neg] at this
theorem sines_j1 (k : Nat) (a : Int) (h : isV a) : laws_FnSines.j1 (k + 2) a (nsin a) 0 false = some true := by
  have r0 := nsin_range a; have r1 := nsin_range (a + 324000)
  simp only [laws_FnSines.j1]
  rw [if_neg (by decide)]; simp only [if_true]
  rw [wid (a + 324000) (by omega) (by omega), wid (-a) (by omega) (by omega), wid (648000 - a) (by omega) (by omega), impl_NanoSine_eq k, impl_NanoSine_eq k, impl_NanoSine_eq k]; simp only [Option.bind_some]
  have h2 : isV (-a) := by omega
  rw [if_pos h2]; simp only [if_true]
  by_cases h1 : isV (a + 324000)
  · rw [if_pos h1]; simp only [if_true]
    by_cases h3 : isV (648000 - a)
    · rw [if_pos h3]; simp only [if_true]
      have q := nsin_squares a
      have e1 : -(1000000400000000000 : Int) ≤ nsin a * nsin a ∧ nsin a * nsin a ≤ 1000000400000000000 := by
        have := sq_nonneg' (nsin a); have := sq_nonneg' (nsin (a + 324000)); omega
      have e2 : -(1000000400000000000 : Int) ≤ nsin (a + 324000) * nsin (a + 324000) ∧ nsin (a + 324000) * nsin (a + 324000) ≤ 1000000400000000000 := by
        have := sq_nonneg' (nsin a); have := sq_nonneg' (nsin (a + 324000)); omega
      rw [nsin_neg, nsin_half, wid (-nsin a) (by omega) (by omega), wid (nsin a * nsin a) (by omega) (by omega), wid (nsin (a + 324000) * nsin (a + 324000)) (by omega) (by omega),
        wid (nsin a * nsin a + nsin (a + 324000) * nsin (a + 324000)) (by omega) (by omega), wid (nsin a * nsin a + nsin (a + 324000) * nsin (a + 324000) - 1000000000000000000) (by omega) (by omega)]
      simp only [if_true]
      rw [if_pos (by omega), decide_eq_true (by omega)]
    · rw [if_neg h3]; rfl
  · rw [if_neg h1]; rfl
theorem FnSines : laws_FnSines.Pure := by
  intro l _ _ hw
  have hb := code_bytes hw
  by_cases hl : l.length ≤ 4096
  · obtain ⟨a, ha⟩ := drawNano_eq l hl hb
    obtain ⟨b, hb'⟩ := drawSine_eq l hl hb
    have hbig : decide ((l.length : Int) > 4096) = false := decide_eq_false (by omega)
    refine ⟨70, ?_⟩
    unfold laws_FnSines.f
    rw [big_eq, hbig]; simp only [Option.bind_some]
    rw [if_neg (by decide), ha _ (by omega), hb' _ (by omega)]; simp only [Option.bind_some]
    rw [impl_NanoSine_eq 69, spec_NanoSine_eq 69, impl_SineOf_eq 69, spec_SineOf_eq 69, impl_CosineOf_eq 69, spec_CosineOf_eq 69]
    simp only [Option.bind_some, if_true, beq_self_eq_true, Bool.not_true, Bool.or_self, Bool.false_eq_true, if_false]
    have hj : laws_FnSines.j1 69 a (if isV a then (nsin a, 0) else ((0, 2) : Int × Int)).1 (if isV a then (nsin a, 0) else ((0, 2) : Int × Int)).2 false = some true := by
      by_cases h : isV a
      · rw [if_pos h]; exact sines_j1 67 a h
      · rw [if_neg h]
        show laws_FnSines.j1 (68 + 1) a 0 2 false = some true
        simp only [laws_FnSines.j1]; rw [if_neg (by decide), if_neg (by decide)]
    by_cases h : isV b
    · rw [if_pos h, if_pos h]
      show laws_FnSines.j0 (69 + 1) a _ _ 0 0 false (sLo (nsin b)) (sHi (nsin b)) (sLo (nsin (b + 324000))) (sHi (nsin (b + 324000))) = some true
      have w1 := sine_width (nsin b); have w2 := sine_width (nsin (b + 324000))
      simp only [laws_FnSines.j0]
      rw [if_neg (by decide)]; simp only [if_true]
      rw [wid _ (by omega) (by omega), wid _ (by omega) (by omega), if_neg (by omega), decide_eq_false (by omega)]; exact hj
    · rw [if_neg h, if_neg h]
      show laws_FnSines.j0 (69 + 1) a _ _ 2 2 false 0 0 0 0 = some true
      simp only [laws_FnSines.j0]
      rw [if_neg (by decide), if_neg (by decide)]; exact hj
  · have hbig : decide ((l.length : Int) > 4096) = true := decide_eq_true (by omega)
    refine ⟨1, ?_⟩
    unfold laws_FnSines.f
    rw [big_eq, hbig]; rfl

end Go.Proofs.Ytcnaocjhfgnphaa.Pure
