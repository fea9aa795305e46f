/- Proved: for every interval the law FnExactIsInterval returns true. Conditions: none. -/
import Derived.Test.YtcjhpkknheddkaaPFnExactIsIntervalx1
namespace Go.Proofs.Ytcjhpkknheddkaa.Pure
open Go.RowKit Go.Proofs.Ytcjhpkknheddkaa.PFnExactIsInterval Go.Proofs.YtcjhpkknheddkaaW.PrintWords Go.Proofs.YtcjhpkknheddkaaW.PrintLast Go.Proofs.YtcjhpkknheddkaaW.PrintMore
set_option linter.unusedVariables false
set_option linter.unusedSimpArgs false

theorem impl_in_eq (n lo hi : Int) : impl_in.f n lo hi = some (decide (lo ≤ n ∧ n ≤ hi)) := by
  unfold impl_in.f; by_cases h : n ≥ lo
  · rw [if_pos h]; simp [show lo ≤ n from h]
  · rw [if_neg h]; simp [show ¬ lo ≤ n from h]

theorem spec_in_eq (n lo hi : Int) : spec_l01In.f n lo hi = some (decide (lo ≤ n ∧ n ≤ hi)) := by
  unfold spec_l01In.f; by_cases h : n ≥ lo
  · rw [if_pos h]; simp [show lo ≤ n from h]
  · rw [if_neg h]; simp [show ¬ lo ≤ n from h]

theorem impl_isValue_eq (n : Int) : impl_isValue.f n = some (decide (-1000000000000 ≤ n ∧ n ≤ 1000000000000)) := by
  unfold impl_isValue.f; rw [impl_in_eq]; rfl

theorem spec_is_eq (n : Int) : spec_l01Is.f n = some (decide (-1000000000000 ≤ n ∧ n ≤ 1000000000000)) := by
  unfold spec_l01Is.f; rw [spec_in_eq]; rfl

theorem dec_and (p q : Prop) [Decidable p] [Decidable q] : (if decide p = true then some (decide q) else some false) = some (decide (p ∧ q)) := by
  by_cases h : p <;> simp [h]

theorem some_dec {p q : Prop} [Decidable p] [Decidable q] (h : p ↔ q) : some (decide p) = some (decide q) := by rw [decide_eq_decide.2 h]

theorem impl_isInterval_eq (a b : Int) : impl_IsInterval.f a b = some (decide (-1000000000000 ≤ a ∧ b ≤ 1000000000000 ∧ a ≤ b)) := by
  unfold impl_IsInterval.f
  rw [impl_isValue_eq, impl_isValue_eq]
  simp only [Option.bind_some, dec_and]
  apply some_dec; omega

theorem spec_isInterval_eq (a b : Int) : spec_IsInterval.f a b = some (decide (-1000000000000 ≤ a ∧ b ≤ 1000000000000 ∧ a ≤ b)) := by
  unfold spec_IsInterval.f
  rw [spec_is_eq, spec_is_eq]
  simp only [Option.bind_some, dec_and]
  apply some_dec; omega

theorem FnExactIsInterval (a0_0 : Int) (a0_1 : Int) (h0_0 : (Lit.int .i64 a0_0).wf = true) (h0_1 : (Lit.int .i64 a0_1).wf = true) : laws_FnExactIsInterval.f a0_0 a0_1 = some true := by
  unfold laws_FnExactIsInterval.f laws_toInterval.f
  simp only [Option.bind_some, spec_isInterval_eq, impl_isInterval_eq]
  simp

end Go.Proofs.Ytcjhpkknheddkaa.Pure
