/- Proved: for every argument the law FnExactAngleOfPoint returns true. Conditions: none. -/
import Derived.Test.YtllapjemdegnjaaQFnExactAngleOfPointx2
namespace Go.Proofs.Ytllapjemdegnjaa.Pure
open Go.RowKit Go.Proofs.Ytllapjemdegnjaa.PFnExactAngleOfPoint Go.Proofs.YtllapjemdegnjaaW.PrintWords Go.Proofs.YtllapjemdegnjaaW.PrintLast Go.Proofs.YtllapjemdegnjaaW.PrintMore
set_option linter.unusedVariables false
set_option linter.unusedSimpArgs false

theorem wid (n : Int) (h0 : -9223372036854775808 ≤ n) (h1 : n ≤ 9223372036854775807) : wrap64 n = n := by unfold wrap64; omega

theorem tmodP (a b : Int) (h : 0 ≤ a) : a.tmod b = a % b := Int.tmod_eq_emod_of_nonneg h

theorem tdivP (a b : Int) (h : 0 ≤ a) : a.tdiv b = a / b := Int.tdiv_eq_ediv_of_nonneg h

theorem ediv_bounds (a b : Int) (hb : 0 < b) : b * (a / b) + a % b = a ∧ 0 ≤ a % b ∧ a % b < b := ⟨Int.mul_ediv_add_emod a b, Int.emod_nonneg _ (by omega), Int.emod_lt_of_pos _ hb⟩

/-- Go's truncated quotient and remainder by a positive number, in Lean's floor form. -/
theorem tdiv_pos_spec (a b : Int) (hb : 0 < b) : a.tmod b = (if 0 ≤ a ∨ a % b = 0 then a % b else a % b - b) ∧ a.tdiv b = (if 0 ≤ a ∨ a % b = 0 then a / b else a / b + 1) := by
  have h1 : a.tdiv b = (if 0 ≤ a ∨ a % b = 0 then a / b else a / b + 1) := by
    rw [Int.tdiv_eq_ediv]
    have e : b.sign = 1 := Int.sign_eq_one_of_pos hb
    rw [e]
    have : (b ∣ a) ↔ a % b = 0 := Int.dvd_iff_emod_eq_zero
    by_cases h : 0 ≤ a ∨ a % b = 0
    · rw [if_pos h, if_pos (by rw [this]; exact h)]; omega
    · rw [if_neg h, if_neg (by rw [this]; exact h)]
  refine ⟨?_, h1⟩
  have h2 := Int.mul_tdiv_add_tmod a b
  have h3 := Int.mul_ediv_add_emod a b
  rw [h1] at h2
  by_cases h : 0 ≤ a ∨ a % b = 0
  · rw [if_pos h] at h2 ⊢; omega
  · rw [if_neg h] at h2 ⊢; rw [Int.mul_add] at h2; omega

theorem ediv_range (a b : Int) (hb : 0 < b) (A : Int) (h0 : -A ≤ a) (h1 : a ≤ A) (hA : 0 ≤ A) : -A ≤ a / b ∧ a / b ≤ A := by
  constructor
  · rw [Int.le_ediv_iff_mul_le hb]
    have : -A * b ≤ -A * 1 := by
      have : A * 1 ≤ A * b := Int.mul_le_mul_of_nonneg_left (by omega) hA
      rw [Int.neg_mul, Int.neg_mul]; omega
    omega
  · have : a / b ≤ A / b := Int.ediv_le_ediv hb h1
    have h2 : A / b ≤ A := Int.ediv_le_self _ hA
    omega

theorem impl_in_eq (n lo hi : Int) : impl_in.f n lo hi = some (decide (lo ≤ n ∧ n ≤ hi)) := by
  unfold impl_in.f; by_cases h : n ≥ lo
  · rw [if_pos h]; simp [show lo ≤ n from h]
  · rw [if_neg h]; simp [show ¬ lo ≤ n from h]

theorem spec_in_eq (n lo hi : Int) : spec_l01In.f n lo hi = some (decide (lo ≤ n ∧ n ≤ hi)) := by
  unfold spec_l01In.f; by_cases h : n ≥ lo
  · rw [if_pos h]; simp [show lo ≤ n from h]
  · rw [if_neg h]; simp [show ¬ lo ≤ n from h]

theorem impl_floor_pos (a b : Int) (hb : 0 < b) (h0 : -9223372036854775807 ≤ a) (h1 : a ≤ 9223372036854775807) : impl_floor.f a b = some (a / b) := by
  have hr := ediv_range a b hb 9223372036854775807 h0 h1 (by omega)
  obtain ⟨e1, e2⟩ := tdiv_pos_spec a b hb
  have hm := Int.emod_nonneg a (show b ≠ 0 by omega)
  have hm2 := Int.emod_lt_of_pos a hb
  unfold impl_floor.f
  rw [if_neg (by omega), e1, e2]
  by_cases h : 0 ≤ a ∨ a % b = 0
  · rw [if_pos h, if_pos h, wid _ (by omega) (by omega)]
    by_cases hz : a % b = 0
    · rw [if_pos hz]
    · rw [if_neg hz, if_neg]
      have : ¬ (a % b < 0) := by omega
      have : ¬ (b < 0) := by omega
      simp [*]
  · rw [if_neg h, if_neg h, if_neg (by omega), if_pos]
    · have : a / b + 1 ≤ 0 := by
        have := Int.ediv_neg_of_neg_of_pos (show a < 0 by omega) hb
        omega
      rw [wid (a / b + 1) (by omega) (by omega), wid _ (by omega) (by omega)]; congr 1; omega
    · have : (a % b - b < 0) := by omega
      have : ¬ (b < 0) := by omega
      simp [*]

theorem impl_mod_pos (a b : Int) (hb : 0 < b) (hb1 : b ≤ 9223372036854775807) (h0 : -9223372036854775807 ≤ a) (h1 : a ≤ 9223372036854775807) (hab : -9223372036854775807 ≤ a - b) : impl_mod.f a b = some (a % b) := by
  obtain ⟨e, m0, m1⟩ := ediv_bounds a b hb
  unfold impl_mod.f
  rw [impl_floor_pos a b hb h0 h1]
  have e2 : a / b * b = a - a % b := by rw [Int.mul_comm]; omega
  simp only [Option.bind_some]
  rw [e2, wid (a - a % b) (by omega) (by omega), wid _ (by omega) (by omega)]; congr 1; omega

theorem spec_mod_pos (a b : Int) (hb : 0 < b) (hb1 : b ≤ 4611686018427387904) : spec_l01Mod.f a b = some (a % b) := by
  unfold spec_l01Mod.f
  rw [if_neg (by omega)]
  obtain ⟨e1, e2⟩ := tdiv_pos_spec a b hb
  have m0 := Int.emod_nonneg a (show b ≠ 0 by omega)
  have m1 := Int.emod_lt_of_pos a hb
  rw [e1]
  by_cases h : 0 ≤ a ∨ a % b = 0
  · rw [if_pos h, wid _ (by omega) (by omega), tmodP _ _ (by omega), Int.add_emod_right, Int.emod_emod]
  · rw [if_neg h, wid _ (by omega) (by omega), tmodP _ _ (by omega)]
    have : a % b - b + b = a % b := by omega
    rw [this, Int.emod_emod]

theorem tdiv2 (a : Int) (h : 0 ≤ a) : Int.tdiv a 2 = a / 2 := tdivP a 2 h

theorem eqInterval_refl (a b : Int) : laws_eqInterval.f a b a b = some true := by
  unfold laws_eqInterval.f; rw [if_pos rfl, if_pos rfl]

theorem impl_plain_eq (a : Int) (h0 : -9000000000000000000 ≤ a) (h1 : a ≤ 9000000000000000000) : impl_plain.f a = some (a % 1296000) := by
  unfold impl_plain.f; rw [impl_mod_pos a _ (by omega) (by omega) (by omega) (by omega) (by omega)]; rfl

theorem spec_plain_eq (a : Int) : spec_l03Plain.f a = some (a % 1296000) := by
  unfold spec_l03Plain.f; rw [spec_mod_pos a _ (by omega) (by omega)]; rfl

def tst (T Y d : Int) : Int := T * Y / 1000000000 / d

theorem tst_range (T Y d : Int) (h0 : 0 ≤ T) (h1 : 0 ≤ Y) (h2 : Y ≤ 1000000000) (hd : 0 < d) : 0 ≤ tst T Y d ∧ tst T Y d ≤ T := by
  unfold tst
  have m0 : 0 ≤ T * Y := Int.mul_nonneg h0 h1
  have m1 : T * Y ≤ T * 1000000000 := Int.mul_le_mul_of_nonneg_left h2 h0
  have q0 : 0 ≤ T * Y / 1000000000 := by omega
  have q1 : T * Y / 1000000000 ≤ T := by omega
  exact ⟨Int.ediv_nonneg q0 (by omega), Int.le_trans (Int.ediv_le_self d q0) q1⟩

theorem tstep (T Y d : Int) (h0 : 0 ≤ T) (h1 : T ≤ 1000000000) (h2 : 0 ≤ Y) (h3 : Y ≤ 1000000000) (hd : 0 < d) :
    wrap64 (Int.tdiv (wrap64 (Int.tdiv (wrap64 (T * Y)) 1000000000)) d) = tst T Y d := by
  have m0 : 0 ≤ T * Y := Int.mul_nonneg h0 h2
  have m1 : T * Y ≤ T * 1000000000 := Int.mul_le_mul_of_nonneg_left h3 h0
  obtain ⟨k0, k1⟩ := tst_range T Y d h0 h2 h3 hd
  rw [wid (T * Y) (by omega) (by omega), tdivP _ _ m0, wid (T * Y / 1000000000) (by omega) (by omega), tdivP _ _ (by omega)]
  exact wid _ (by unfold tst at k0; omega) (by unfold tst at k1; omega)

def pX (r : Int) : Int := r * 48481368 / 10000

def pY (r : Int) : Int := pX r * pX r / 1000000000

def pT3 (r : Int) : Int := tst (pX r) (pY r) 6

def pT5 (r : Int) : Int := tst (pT3 r) (pY r) 20

def pT7 (r : Int) : Int := tst (pT5 r) (pY r) 42

def pT9 (r : Int) : Int := tst (pT7 r) (pY r) 72

def pC2 (r : Int) : Int := pY r / 2

def pC4 (r : Int) : Int := tst (pC2 r) (pY r) 12

def pC6 (r : Int) : Int := tst (pC4 r) (pY r) 30

def pC8 (r : Int) : Int := tst (pC6 r) (pY r) 56

def pC10 (r : Int) : Int := tst (pC8 r) (pY r) 90

def polyP (r : Int) : Int := pX r - pT3 r + pT5 r - pT7 r + pT9 r

def polyQ (r : Int) : Int := 1000000000 - pC2 r + pC4 r - pC6 r + pC8 r - pC10 r

theorem pX_range (r : Int) (h0 : 0 ≤ r) (h1 : r ≤ 162000) : 0 ≤ pX r ∧ pX r ≤ 785398162 := by unfold pX; omega

theorem pY_range (r : Int) (h0 : 0 ≤ r) (h1 : r ≤ 162000) : 0 ≤ pY r ∧ pY r ≤ 785398162 := by
  obtain ⟨a, b⟩ := pX_range r h0 h1
  have m0 : 0 ≤ pX r * pX r := Int.mul_nonneg a a
  have m1 : pX r * pX r ≤ pX r * 785398162 := Int.mul_le_mul_of_nonneg_left b a
  unfold pY; omega

theorem pT_range (r : Int) (h0 : 0 ≤ r) (h1 : r ≤ 162000) : (0 ≤ pT3 r ∧ pT3 r ≤ pX r) ∧ (0 ≤ pT5 r ∧ pT5 r ≤ pT3 r) ∧ (0 ≤ pT7 r ∧ pT7 r ≤ pT5 r) ∧ (0 ≤ pT9 r ∧ pT9 r ≤ pT7 r) := by
  have a := pX_range r h0 h1
  have y := pY_range r h0 h1
  have t3 : 0 ≤ pT3 r ∧ pT3 r ≤ pX r := tst_range _ _ _ (by omega) (by omega) (by omega) (by omega)
  have t5 : 0 ≤ pT5 r ∧ pT5 r ≤ pT3 r := tst_range _ _ _ (by omega) (by omega) (by omega) (by omega)
  have t7 : 0 ≤ pT7 r ∧ pT7 r ≤ pT5 r := tst_range _ _ _ (by omega) (by omega) (by omega) (by omega)
  have t9 : 0 ≤ pT9 r ∧ pT9 r ≤ pT7 r := tst_range _ _ _ (by omega) (by omega) (by omega) (by omega)
  exact ⟨t3, t5, t7, t9⟩

theorem pC_range (r : Int) (h0 : 0 ≤ r) (h1 : r ≤ 162000) : (0 ≤ pC2 r ∧ pC2 r ≤ 392699081) ∧ (0 ≤ pC4 r ∧ pC4 r ≤ pC2 r) ∧ (0 ≤ pC6 r ∧ pC6 r ≤ pC4 r) ∧ (0 ≤ pC8 r ∧ pC8 r ≤ pC6 r) ∧ (0 ≤ pC10 r ∧ pC10 r ≤ pC8 r) := by
  have y := pY_range r h0 h1
  have c2 : 0 ≤ pC2 r ∧ pC2 r ≤ 392699081 := by unfold pC2; omega
  have c4 : 0 ≤ pC4 r ∧ pC4 r ≤ pC2 r := tst_range _ _ _ (by omega) (by omega) (by omega) (by omega)
  have c6 : 0 ≤ pC6 r ∧ pC6 r ≤ pC4 r := tst_range _ _ _ (by omega) (by omega) (by omega) (by omega)
  have c8 : 0 ≤ pC8 r ∧ pC8 r ≤ pC6 r := tst_range _ _ _ (by omega) (by omega) (by omega) (by omega)
  have c10 : 0 ≤ pC10 r ∧ pC10 r ≤ pC8 r := tst_range _ _ _ (by omega) (by omega) (by omega) (by omega)
  exact ⟨c2, c4, c6, c8, c10⟩

theorem polyP_range (r : Int) (h0 : 0 ≤ r) (h1 : r ≤ 162000) : -2000000000 ≤ polyP r ∧ polyP r ≤ 2500000000 := by
  have a := pX_range r h0 h1; have t := pT_range r h0 h1
  unfold polyP; omega

theorem polyQ_range (r : Int) (h0 : 0 ≤ r) (h1 : r ≤ 162000) : -2000000000 ≤ polyQ r ∧ polyQ r ≤ 2500000000 := by
  have t := pC_range r h0 h1
  unfold polyQ; omega

theorem spec_arc_eq (r : Int) (h0 : 0 ≤ r) (h1 : r ≤ 162000) : spec_l04Arc.f r = some (pX r, pY r) := by
  obtain ⟨a, b⟩ := pX_range r h0 h1
  have m0 : 0 ≤ pX r * pX r := Int.mul_nonneg a a
  have m1 : pX r * pX r ≤ pX r * 785398162 := Int.mul_le_mul_of_nonneg_left b a
  have e : wrap64 (Int.tdiv (wrap64 (r * 48481368)) 10000) = pX r := by
    rw [wid (r * 48481368) (by omega) (by omega), tdivP _ _ (by omega)]; exact wid (pX r) (by omega) (by omega)
  have e2 : wrap64 (Int.tdiv (wrap64 (pX r * pX r)) 1000000000) = pY r := by
    have y := pY_range r h0 h1
    rw [wid (pX r * pX r) (by omega) (by omega), tdivP _ _ m0]; exact wid (pY r) (by omega) (by omega)
  unfold spec_l04Arc.f
  rw [e, e2]

theorem spec_P_eq (r : Int) (h0 : 0 ≤ r) (h1 : r ≤ 162000) : spec_l04P.f r = some (polyP r) := by
  have a := pX_range r h0 h1; have y := pY_range r h0 h1; obtain ⟨t3, t5, t7, t9⟩ := pT_range r h0 h1
  unfold spec_l04P.f
  rw [spec_arc_eq r h0 h1]
  simp only [Option.bind_some]
  rw [tstep (pX r) (pY r) 6 (by omega) (by omega) (by omega) (by omega) (by omega), show tst (pX r) (pY r) 6 = pT3 r from rfl,
    tstep (pT3 r) (pY r) 20 (by omega) (by omega) (by omega) (by omega) (by omega), show tst (pT3 r) (pY r) 20 = pT5 r from rfl,
    tstep (pT5 r) (pY r) 42 (by omega) (by omega) (by omega) (by omega) (by omega), show tst (pT5 r) (pY r) 42 = pT7 r from rfl,
    tstep (pT7 r) (pY r) 72 (by omega) (by omega) (by omega) (by omega) (by omega), show tst (pT7 r) (pY r) 72 = pT9 r from rfl,
    wid (pX r - pT3 r) (by omega) (by omega), wid (pX r - pT3 r + pT5 r) (by omega) (by omega), wid (pX r - pT3 r + pT5 r - pT7 r) (by omega) (by omega), wid (pX r - pT3 r + pT5 r - pT7 r + pT9 r) (by omega) (by omega)]
  rfl

theorem spec_Q_eq (r : Int) (h0 : 0 ≤ r) (h1 : r ≤ 162000) : spec_l04Q.f r = some (polyQ r) := by
  have y := pY_range r h0 h1; obtain ⟨c2, c4, c6, c8, c10⟩ := pC_range r h0 h1
  have e2 : wrap64 (Int.tdiv (pY r) 2) = pC2 r := by rw [tdivP _ _ (by omega)]; exact wid (pC2 r) (by omega) (by omega)
  unfold spec_l04Q.f
  rw [spec_arc_eq r h0 h1]
  simp only [Option.bind_some]
  rw [e2, tstep (pC2 r) (pY r) 12 (by omega) (by omega) (by omega) (by omega) (by omega), show tst (pC2 r) (pY r) 12 = pC4 r from rfl,
    tstep (pC4 r) (pY r) 30 (by omega) (by omega) (by omega) (by omega) (by omega), show tst (pC4 r) (pY r) 30 = pC6 r from rfl,
    tstep (pC6 r) (pY r) 56 (by omega) (by omega) (by omega) (by omega) (by omega), show tst (pC6 r) (pY r) 56 = pC8 r from rfl,
    tstep (pC8 r) (pY r) 90 (by omega) (by omega) (by omega) (by omega) (by omega), show tst (pC8 r) (pY r) 90 = pC10 r from rfl,
    wid (1000000000 - pC2 r) (by omega) (by omega), wid (1000000000 - pC2 r + pC4 r) (by omega) (by omega), wid (1000000000 - pC2 r + pC4 r - pC6 r) (by omega) (by omega), wid (1000000000 - pC2 r + pC4 r - pC6 r + pC8 r) (by omega) (by omega), wid (1000000000 - pC2 r + pC4 r - pC6 r + pC8 r - pC10 r) (by omega) (by omega)]
  rfl

theorem impl_poly_eq (r : Int) (h0 : 0 ≤ r) (h1 : r ≤ 162000) : impl_polynomials.f r = some (polyP r, polyQ r) := by
  obtain ⟨a, b⟩ := pX_range r h0 h1
  have y := pY_range r h0 h1; obtain ⟨t3, t5, t7, t9⟩ := pT_range r h0 h1; obtain ⟨c2, c4, c6, c8, c10⟩ := pC_range r h0 h1
  have m0 : 0 ≤ pX r * pX r := Int.mul_nonneg a a
  have m1 : pX r * pX r ≤ pX r * 785398162 := Int.mul_le_mul_of_nonneg_left b a
  have e : wrap64 (Int.tdiv (wrap64 (r * 48481368)) 10000) = pX r := by
    rw [wid (r * 48481368) (by omega) (by omega), tdivP _ _ (by omega)]; exact wid (pX r) (by omega) (by omega)
  have e1 : wrap64 (Int.tdiv (wrap64 (pX r * pX r)) 1000000000) = pY r := by
    rw [wid (pX r * pX r) (by omega) (by omega), tdivP _ _ m0]; exact wid (pY r) (by omega) (by omega)
  have e2 : wrap64 (Int.tdiv (pY r) 2) = pC2 r := by rw [tdivP _ _ (by omega)]; exact wid (pC2 r) (by omega) (by omega)
  unfold impl_polynomials.f
  rw [e, e1, e2, tstep (pX r) (pY r) 6 (by omega) (by omega) (by omega) (by omega) (by omega), show tst (pX r) (pY r) 6 = pT3 r from rfl,
    tstep (pT3 r) (pY r) 20 (by omega) (by omega) (by omega) (by omega) (by omega), show tst (pT3 r) (pY r) 20 = pT5 r from rfl,
    tstep (pT5 r) (pY r) 42 (by omega) (by omega) (by omega) (by omega) (by omega), show tst (pT5 r) (pY r) 42 = pT7 r from rfl,
    tstep (pT7 r) (pY r) 72 (by omega) (by omega) (by omega) (by omega) (by omega), show tst (pT7 r) (pY r) 72 = pT9 r from rfl,
    wid (pX r - pT3 r) (by omega) (by omega), wid (pX r - pT3 r + pT5 r) (by omega) (by omega), wid (pX r - pT3 r + pT5 r - pT7 r) (by omega) (by omega), wid (pX r - pT3 r + pT5 r - pT7 r + pT9 r) (by omega) (by omega),
    tstep (pC2 r) (pY r) 12 (by omega) (by omega) (by omega) (by omega) (by omega), show tst (pC2 r) (pY r) 12 = pC4 r from rfl,
    tstep (pC4 r) (pY r) 30 (by omega) (by omega) (by omega) (by omega) (by omega), show tst (pC4 r) (pY r) 30 = pC6 r from rfl,
    tstep (pC6 r) (pY r) 56 (by omega) (by omega) (by omega) (by omega) (by omega), show tst (pC6 r) (pY r) 56 = pC8 r from rfl,
    tstep (pC8 r) (pY r) 90 (by omega) (by omega) (by omega) (by omega) (by omega), show tst (pC8 r) (pY r) 90 = pC10 r from rfl,
    wid (1000000000 - pC2 r) (by omega) (by omega), wid (1000000000 - pC2 r + pC4 r) (by omega) (by omega), wid (1000000000 - pC2 r + pC4 r - pC6 r) (by omega) (by omega), wid (1000000000 - pC2 r + pC4 r - pC6 r + pC8 r) (by omega) (by omega), wid (1000000000 - pC2 r + pC4 r - pC6 r + pC8 r - pC10 r) (by omega) (by omega)]
  rfl

/-- The sine in nano units, in the first half turn's quarters: q the quarter, r the angle within it. -/
def qsin (q r : Int) : Int := if r ≤ 162000 then (if q < 2 then polyP r else -(polyP r)) else (if q < 2 then polyQ (324000 - r) else -(polyQ (324000 - r)))

def nsin (a : Int) : Int := if a % 1296000 / 324000 % 2 = 1 then qsin (a % 1296000 / 324000) (324000 - a % 1296000 % 324000) else qsin (a % 1296000 / 324000) (a % 1296000 % 324000)

theorem impl_nanoSine_j (k : Nat) (q r : Int) (h0 : 0 ≤ r) (h1 : r ≤ 324000) : impl_nanoSine.j0 (k + 1) q r = some (qsin q r) := by
  simp only [impl_nanoSine.j0]; unfold qsin
  by_cases h : r ≤ 162000
  · have := polyP_range r h0 h
    rw [if_pos h, if_pos h, impl_poly_eq r h0 h]; simp only [Option.bind_some]
    rw [wid (-polyP r) (by omega) (by omega), apply_ite some]
  · have := polyQ_range (324000 - r) (by omega) (by omega)
    rw [if_neg h, if_neg h, wid (324000 - r) (by omega) (by omega), impl_poly_eq (324000 - r) (by omega) (by omega)]; simp only [Option.bind_some]
    rw [wid (-polyQ (324000 - r)) (by omega) (by omega), apply_ite some]

theorem spec_l04Sine_j (k : Nat) (q r : Int) (h0 : 0 ≤ r) (h1 : r ≤ 324000) : spec_l04Sine.j0 (k + 1) q r = some (qsin q r) := by
  simp only [spec_l04Sine.j0]; unfold qsin
  by_cases h : r ≤ 162000
  · have := polyP_range r h0 h
    rw [if_pos h, if_pos h, spec_P_eq r h0 h]; simp only [Option.bind_some]
    rw [wid (-polyP r) (by omega) (by omega)]
    by_cases c : q < 2
    · rw [if_pos c, if_neg (by omega)]
    · rw [if_neg c, if_pos (by omega)]
  · have := polyQ_range (324000 - r) (by omega) (by omega)
    rw [if_neg h, if_neg h, wid (324000 - r) (by omega) (by omega), spec_Q_eq (324000 - r) (by omega) (by omega)]; simp only [Option.bind_some]
    rw [wid (-polyQ (324000 - r)) (by omega) (by omega)]
    by_cases c : q < 2
    · rw [if_pos c, if_neg (by omega)]
    · rw [if_neg c, if_pos (by omega)]

theorem impl_nanoSine_eq (k : Nat) (a : Int) (h0 : -9000000000000000000 ≤ a) (h1 : a ≤ 9000000000000000000) : impl_nanoSine.f (k + 1) a = some (nsin a) := by
  unfold impl_nanoSine.f nsin
  rw [impl_plain_eq a h0 h1]; simp only [Option.bind_some]
  rw [tdivP _ _ (show 0 ≤ a % 1296000 by omega), tmodP _ _ (show 0 ≤ a % 1296000 by omega), wid (a % 1296000 / 324000) (by omega) (by omega), tmodP _ _ (show 0 ≤ a % 1296000 / 324000 by omega), wid (324000 - a % 1296000 % 324000) (by omega) (by omega),
    impl_nanoSine_j k _ _ (by omega) (by omega), impl_nanoSine_j k _ _ (by omega) (by omega), apply_ite some]

theorem spec_nanoSine_eq (k : Nat) (a : Int) : spec_l04Sine.f (k + 1) a = some (nsin a) := by
  unfold spec_l04Sine.f nsin
  rw [spec_plain_eq a]; simp only [Option.bind_some]
  rw [tdivP _ _ (show 0 ≤ a % 1296000 by omega), tmodP _ _ (show 0 ≤ a % 1296000 by omega), wid (a % 1296000 / 324000) (by omega) (by omega), tmodP _ _ (show 0 ≤ a % 1296000 / 324000 by omega), wid (324000 - a % 1296000 % 324000) (by omega) (by omega),
    spec_l04Sine_j k _ _ (by omega) (by omega), spec_l04Sine_j k _ _ (by omega) (by omega), apply_ite some]

theorem spec_nanoCosine_eq (k : Nat) (a : Int) (h0 : -8000000000000000000 ≤ a) (h1 : a ≤ 8000000000000000000) : spec_l04Cosine.f (k + 1) a = some (nsin (a + 324000)) := by
  unfold spec_l04Cosine.f; rw [wid _ (by omega) (by omega), spec_nanoSine_eq k]; rfl

theorem impl_nanoCosine_eq (k : Nat) (a : Int) (h0 : -8000000000000000000 ≤ a) (h1 : a ≤ 8000000000000000000) : impl_nanoCosine.f (k + 1) a = some (nsin (a + 324000)) := by
  unfold impl_nanoCosine.f; rw [wid _ (by omega) (by omega), impl_nanoSine_eq k _ (by omega) (by omega)]; rfl

/-- Halving for the angle to a point: both programs' loops end at the same place. -/
theorem point_loop (x y : Int) : ∀ (d : Nat) (lo hi : Int), 0 ≤ lo → lo < hi → hi ≤ 1296000 → hi - lo ≤ d →
    ∃ l, (0 ≤ l ∧ l < 1296000) ∧ ∀ k, d + 1 < k → impl_angleOfPoint.l0 k x y lo hi = some l ∧ spec_l05Point.l0 k x y lo hi = some (l - 1, l + 2) := by
  intro d
  induction d with
  | zero => intro lo hi h0 h1 h2 h3; omega
  | succ d ih =>
    intro lo hi h0 h1 h2 h3
    by_cases h : hi - lo > 1
    · have hs : ∀ k, impl_nanoSine.f (k + 1) ((lo + hi) / 2) = some (nsin ((lo + hi) / 2)) := fun k => impl_nanoSine_eq k _ (by omega) (by omega)
      have hc : ∀ k, impl_nanoCosine.f (k + 1) ((lo + hi) / 2) = some (nsin ((lo + hi) / 2 + 324000)) := fun k => impl_nanoCosine_eq k _ (by omega) (by omega)
      have hs' : ∀ k, spec_l04Sine.f (k + 1) ((lo + hi) / 2) = some (nsin ((lo + hi) / 2)) := fun k => spec_nanoSine_eq k _
      have hc' : ∀ k, spec_l04Cosine.f (k + 1) ((lo + hi) / 2) = some (nsin ((lo + hi) / 2 + 324000)) := fun k => spec_nanoCosine_eq k _ (by omega) (by omega)
      have e1 : wrap64 (Int.tdiv (wrap64 (lo + hi)) 2) = (lo + hi) / 2 := by rw [wid (lo + hi) (by omega) (by omega), tdiv2 _ (by omega), wid _ (by omega) (by omega)]
      by_cases c : wrap64 (x * nsin ((lo + hi) / 2)) ≤ wrap64 (y * nsin ((lo + hi) / 2 + 324000))
      · obtain ⟨l, hl, hr⟩ := ih ((lo + hi) / 2) hi (by omega) (by omega) h2 (by omega)
        refine ⟨l, hl, fun k hk => ?_⟩
        obtain ⟨k, rfl⟩ : ∃ m, k = m + 2 := ⟨k - 2, by omega⟩
        obtain ⟨g1, g2⟩ := hr (k + 1) (by omega)
        rw [impl_angleOfPoint.l0, spec_l05Point.l0, wid (hi - lo) (by omega) (by omega), if_pos h, if_pos h, e1, wid (lo + hi) (by omega) (by omega), impl_floor_pos _ 2 (by omega) (by omega) (by omega)]
        simp only [Option.bind_some, hs, hc, hs', hc', if_pos c]
        exact ⟨g1, g2⟩
      · obtain ⟨l, hl, hr⟩ := ih lo ((lo + hi) / 2) (by omega) (by omega) (by omega) (by omega)
        refine ⟨l, hl, fun k hk => ?_⟩
        obtain ⟨k, rfl⟩ : ∃ m, k = m + 2 := ⟨k - 2, by omega⟩
        obtain ⟨g1, g2⟩ := hr (k + 1) (by omega)
        rw [impl_angleOfPoint.l0, spec_l05Point.l0, wid (hi - lo) (by omega) (by omega), if_pos h, if_pos h, e1, wid (lo + hi) (by omega) (by omega), impl_floor_pos _ 2 (by omega) (by omega) (by omega)]
        simp only [Option.bind_some, hs, hc, hs', hc', if_neg c]
        exact ⟨g1, g2⟩
    · refine ⟨lo, by omega, fun k hk => ?_⟩
      obtain ⟨k, rfl⟩ : ∃ m, k = m + 2 := ⟨k - 2, by omega⟩
      rw [impl_angleOfPoint.l0, spec_l05Point.l0, wid (hi - lo) (by omega) (by omega), if_neg h, if_neg h, wid (lo - 1) (by omega) (by omega), wid (lo + 2) (by omega) (by omega)]
      exact ⟨rfl, rfl⟩

theorem point_half (x y m : Int) (h0 : 0 ≤ m) (h1 : m ≤ 648000) : ∃ l, ∀ k, 700000 < k → impl_angleOfPoint.j0 k x y m = some (l - 1, l + 2) ∧ spec_l05Point.j1 (k + 1) x y m = some (l - 1, l + 2) := by
  obtain ⟨l, hl, hr⟩ := point_loop x y 648000 m (m + 648000) h0 (by omega) (by omega) (by omega)
  refine ⟨l, fun k hk => ?_⟩
  obtain ⟨g1, g2⟩ := hr k (by omega)
  unfold impl_angleOfPoint.j0
  rw [spec_l05Point.j1, wid (m + 648000) (by omega) (by omega), g1, g2]
  simp only [Option.bind_some]
  rw [wid (l - 1) (by omega) (by omega), wid (l + 2) (by omega) (by omega)]
  first | exact ⟨rfl, rfl⟩ | exact ⟨rfl, trivial⟩

theorem point_eq (x y : Int) : ∃ p, ∀ k, 700000 < k → impl_angleOfPoint.f k x y = some p ∧ spec_l05Point.f (k + 2) x y = some p := by
  unfold impl_angleOfPoint.f spec_l05Point.f
  by_cases c1 : y > 0
  · obtain ⟨l, hl⟩ := point_half x y 0 (by omega) (by omega)
    exact ⟨_, fun k hk => by rw [if_pos c1, if_pos c1, spec_l05Point.j0, if_pos rfl]; exact hl k hk⟩
  · by_cases c2 : y = 0
    · by_cases c3 : x > 0
      · obtain ⟨l, hl⟩ := point_half x y 0 (by omega) (by omega)
        exact ⟨_, fun k hk => by rw [if_neg c1, if_neg c1, if_pos c2, if_pos c2, if_pos c3, spec_l05Point.j0, if_pos (decide_eq_true c3)]; exact hl k hk⟩
      · obtain ⟨l, hl⟩ := point_half x y 648000 (by omega) (by omega)
        exact ⟨_, fun k hk => by rw [if_neg c1, if_neg c1, if_pos c2, if_pos c2, if_neg c3, spec_l05Point.j0, if_neg (by simp [c3])]; exact hl k hk⟩
    · obtain ⟨l, hl⟩ := point_half x y 648000 (by omega) (by omega)
      exact ⟨_, fun k hk => by rw [if_neg c1, if_neg c1, if_neg c2, if_neg c2, spec_l05Point.j0, if_neg (by simp)]; exact hl k hk⟩

theorem FnExactAngleOfPoint : laws_FnExactAngleOfPoint.Pure := by
  intro x y _ _
  refine ⟨700010, ?_⟩
  unfold laws_FnExactAngleOfPoint.f spec_AngleOfPoint.f impl_AngleOfPoint.f
  simp only [spec_in_eq, impl_in_eq, Option.bind_some]
  obtain ⟨⟨p, q⟩, hp⟩ := point_eq x y
  have h1 := (hp 700009 (by omega)).1
  have h2 := (hp 700007 (by omega)).2
  rw [spec_AngleOfPoint.j0, impl_AngleOfPoint.j0, spec_AngleOfPoint.j0, impl_AngleOfPoint.j0, h1, h2]
  by_cases c1 : -1000000000 ≤ x ∧ x ≤ 1000000000 <;> by_cases c2 : -1000000000 ≤ y ∧ y ≤ 1000000000 <;> by_cases c3 : x = 0 <;> by_cases c4 : y = 0 <;> simp [c1, c2, c3, c4, eqInterval_refl]

end Go.Proofs.Ytllapjemdegnjaa.Pure
