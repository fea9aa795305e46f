/- Proved: for every argument the law FnExactRootOf returns true. Conditions: none. -/
import Derived.Test.YtfckpcppeiboiaaPFnExactRootOfx1
namespace Go.Proofs.Ytfckpcppeiboiaa.Pure
open Go.RowKit Go.Proofs.Ytfckpcppeiboiaa.PFnExactRootOf Go.Proofs.YtfckpcppeiboiaaW.PrintWords Go.Proofs.YtfckpcppeiboiaaW.PrintLast Go.Proofs.YtfckpcppeiboiaaW.PrintMore
set_option linter.unusedVariables false
set_option linter.unusedSimpArgs false

theorem wid (n : Int) (h0 : -9223372036854775808 ≤ n) (h1 : n ≤ 9223372036854775807) : wrap64 n = n := by unfold wrap64; omega

theorem tdivP (a b : Int) (h : 0 ≤ a) : a.tdiv b = a / b := Int.tdiv_eq_ediv_of_nonneg h

theorem impl_in_eq (n lo hi : Int) : impl_in.f n lo hi = some (decide (lo ≤ n ∧ n ≤ hi)) := by
  unfold impl_in.f; by_cases h : n ≥ lo
  · rw [if_pos h]; simp [show lo ≤ n from h]
  · rw [if_neg h]; simp [show ¬ lo ≤ n from h]

theorem spec_in_eq (n lo hi : Int) : spec_l01In.f n lo hi = some (decide (lo ≤ n ∧ n ≤ hi)) := by
  unfold spec_l01In.f; by_cases h : n ≥ lo
  · rw [if_pos h]; simp [show lo ≤ n from h]
  · rw [if_neg h]; simp [show ¬ lo ≤ n from h]

theorem mul_range (x y X Y : Int) (h0 : -X ≤ x) (h1 : x ≤ X) (hy : 0 ≤ y) (hy1 : y ≤ Y) : -(X * Y) ≤ x * y ∧ x * y ≤ X * Y := by
  have hX : 0 ≤ X := by omega
  have k1 : x * y ≤ X * y := Int.mul_le_mul_of_nonneg_right h1 hy
  have k2 : X * y ≤ X * Y := Int.mul_le_mul_of_nonneg_left hy1 hX
  have k3 : (-X) * y ≤ x * y := Int.mul_le_mul_of_nonneg_right h0 hy
  rw [Int.neg_mul] at k3
  omega

theorem tdiv2 (a : Int) (h : 0 ≤ a) : Int.tdiv a 2 = a / 2 := tdivP a 2 h

/-- Halving for a square root: both programs' loops tell the same root. -/
theorem root_loop (n : Int) (hn : 0 ≤ n) (hn1 : n ≤ 4000000000000000000) : ∀ (d : Nat) (lo hi : Int), 0 ≤ lo → lo < hi → hi ≤ 2000000001 → hi - lo ≤ d → lo * lo ≤ n → n < hi * hi →
    ∃ r, 0 ≤ r ∧ r ≤ 2000000000 ∧ r * r ≤ n ∧ n < (r + 1) * (r + 1) ∧ ∀ k, d < k → impl_root.l0 k n lo hi = some r ∧ spec_l01Root.l0 k n lo hi = some r := by
  intro d
  induction d with
  | zero => intro lo hi h0 h1 h2 h3; omega
  | succ d ih =>
    intro lo hi h0 h1 h2 h3 h4 h5
    by_cases h : hi - lo > 1
    · have hmid : lo < (lo + hi) / 2 ∧ (lo + hi) / 2 < hi := by omega
      have hsq : 0 ≤ (lo + hi) / 2 * ((lo + hi) / 2) ∧ (lo + hi) / 2 * ((lo + hi) / 2) ≤ 4000000000000000000 := by
        have := mul_range ((lo + hi) / 2) ((lo + hi) / 2) 2000000000 2000000000 (by omega) (by omega) (by omega) (by omega)
        have := Int.mul_nonneg (show 0 ≤ (lo + hi) / 2 by omega) (show 0 ≤ (lo + hi) / 2 by omega)
        omega
      by_cases c : (lo + hi) / 2 * ((lo + hi) / 2) ≤ n
      · obtain ⟨r, r0, r1, r2, r3, hr⟩ := ih ((lo + hi) / 2) hi (by omega) (by omega) h2 (by omega) c h5
        refine ⟨r, r0, r1, r2, r3, fun k hk => ?_⟩
        obtain ⟨k, rfl⟩ : ∃ m, k = m + 1 := ⟨k - 1, by omega⟩
        simp only [impl_root.l0, spec_l01Root.l0]
        rw [wid (hi - lo) (by omega) (by omega), if_pos h, if_pos h, wid (lo + hi) (by omega) (by omega), tdiv2 _ (by omega), wid ((lo + hi) / 2) (by omega) (by omega), wid (_ * _) (by omega) (by omega), if_pos c, if_pos c]
        exact hr k (by omega)
      · obtain ⟨r, r0, r1, r2, r3, hr⟩ := ih lo ((lo + hi) / 2) (by omega) (by omega) (by omega) (by omega) h4 (by omega)
        refine ⟨r, r0, r1, r2, r3, fun k hk => ?_⟩
        obtain ⟨k, rfl⟩ : ∃ m, k = m + 1 := ⟨k - 1, by omega⟩
        simp only [impl_root.l0, spec_l01Root.l0]
        rw [wid (hi - lo) (by omega) (by omega), if_pos h, if_pos h, wid (lo + hi) (by omega) (by omega), tdiv2 _ (by omega), wid ((lo + hi) / 2) (by omega) (by omega), wid (_ * _) (by omega) (by omega), if_neg c, if_neg c]
        exact hr k (by omega)
    · obtain rfl : hi = lo + 1 := by omega
      refine ⟨lo, h0, by omega, h4, h5, fun k hk => ?_⟩
      obtain ⟨k, rfl⟩ : ∃ m, k = m + 1 := ⟨k - 1, by omega⟩
      simp only [impl_root.l0, spec_l01Root.l0]
      rw [wid (lo + 1 - lo) (by omega) (by omega), if_neg (by omega), if_neg (by omega)]
      exact ⟨rfl, rfl⟩

theorem root_both (n : Int) (hn : 0 ≤ n) (hn1 : n ≤ 4000000000000000000) : ∃ r, 0 ≤ r ∧ r ≤ 2000000000 ∧ r * r ≤ n ∧ n < (r + 1) * (r + 1) ∧ ∀ k, 2000000001 < k → impl_root.f k n = some r ∧ spec_l01Root.f k n = some r := by
  obtain ⟨r, r0, r1, r2, r3, hr⟩ := root_loop n hn hn1 2000000001 0 2000000001 (by omega) (by omega) (by omega) (by omega) (by omega) (by omega)
  exact ⟨r, r0, r1, r2, r3, hr⟩

theorem FnExactRootOf : laws_FnExactRootOf.Pure := by
  intro a h
  refine ⟨2000000002, ?_⟩
  unfold laws_FnExactRootOf.f spec_RootOf.f impl_RootOf.f
  rw [spec_in_eq, impl_in_eq]
  by_cases c : 0 ≤ a ∧ a ≤ 4000000000000000000
  · obtain ⟨r, _, _, _, _, hr⟩ := root_both a c.1 c.2
    obtain ⟨h1, h2⟩ := hr 2000000002 (by omega)
    rw [h1, h2]; simp [c]
  · simp [c]

end Go.Proofs.Ytfckpcppeiboiaa.Pure
