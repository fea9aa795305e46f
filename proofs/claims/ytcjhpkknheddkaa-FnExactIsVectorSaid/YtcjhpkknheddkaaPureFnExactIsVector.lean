/- Proved: for every vector the law FnExactIsVector returns true. Conditions: none. -/
import Derived.Test.YtcjhpkknheddkaaPFnExactIsVectorx1
namespace Go.Proofs.Ytcjhpkknheddkaa.Pure
open Go.RowKit Go.Proofs.Ytcjhpkknheddkaa.PFnExactIsVector Go.Proofs.YtcjhpkknheddkaaW.PrintWords Go.Proofs.YtcjhpkknheddkaaW.PrintLast Go.Proofs.YtcjhpkknheddkaaW.PrintMore
set_option linter.unusedVariables false
set_option linter.unusedSimpArgs false

theorem wid (n : Int) (h0 : -9223372036854775808 ≤ n) (h1 : n ≤ 9223372036854775807) : wrap64 n = n := by unfold wrap64; omega

theorem impl_in_eq (n lo hi : Int) : impl_in.f n lo hi = some (decide (lo ≤ n ∧ n ≤ hi)) := by
  unfold impl_in.f; by_cases h : n ≥ lo
  · rw [if_pos h]; simp [show lo ≤ n from h]
  · rw [if_neg h]; simp [show ¬ lo ≤ n from h]

theorem spec_in_eq (n lo hi : Int) : spec_l01In.f n lo hi = some (decide (lo ≤ n ∧ n ≤ hi)) := by
  unfold spec_l01In.f; by_cases h : n ≥ lo
  · rw [if_pos h]; simp [show lo ≤ n from h]
  · rw [if_neg h]; simp [show ¬ lo ≤ n from h]

theorem impl_isValue_eq (n : Int) : impl_isValue.f n = some (decide (-1000000000000 ≤ n ∧ n ≤ 1000000000000)) := by
  unfold impl_isValue.f; rw [impl_in_eq]; rfl

theorem dec_and (p q : Prop) [Decidable p] [Decidable q] : (if decide p = true then some (decide q) else some false) = some (decide (p ∧ q)) := by
  by_cases h : p <;> simp [h]

theorem some_dec {p q : Prop} [Decidable p] [Decidable q] (h : p ↔ q) : some (decide p) = some (decide q) := by rw [decide_eq_decide.2 h]

theorem impl_isInterval_eq (a b : Int) : impl_IsInterval.f a b = some (decide (-1000000000000 ≤ a ∧ b ≤ 1000000000000 ∧ a ≤ b)) := by
  unfold impl_IsInterval.f
  rw [impl_isValue_eq, impl_isValue_eq]
  simp only [Option.bind_some, dec_and]
  apply some_dec; omega

theorem impl_within_eq (a b m : Int) (h0 : 0 ≤ m) (h1 : m ≤ 1000000000000) : impl_Interval_within.f a b m = some (decide (-m ≤ a ∧ a ≤ m ∧ -m ≤ b ∧ b ≤ m)) := by
  unfold impl_Interval_within.f
  rw [wid (-m) (by omega) (by omega), impl_in_eq, impl_in_eq]
  simp only [Option.bind_some, dec_and]
  apply some_dec; omega

theorem impl_isPart_eq (a b : Int) : impl_isPart.f a b = some (decide (-10000000 ≤ a ∧ b ≤ 10000000 ∧ a ≤ b)) := by
  unfold impl_isPart.f
  rw [impl_isInterval_eq, impl_within_eq _ _ _ (by omega) (by omega)]
  simp only [Option.bind_some, dec_and]
  apply some_dec; omega

theorem spec_part_eq (a b : Int) : spec_l06Part.f a b = some (decide (-10000000 ≤ a ∧ b ≤ 10000000 ∧ a ≤ b)) := by
  unfold spec_l06Part.f
  rw [spec_in_eq, spec_in_eq]
  simp only [Option.bind_some, dec_and]
  apply some_dec; omega

abbrev isVec (a b c d e f : Int) : Prop := (-10000000 ≤ a ∧ b ≤ 10000000 ∧ a ≤ b) ∧ (-10000000 ≤ c ∧ d ≤ 10000000 ∧ c ≤ d) ∧ (-10000000 ≤ e ∧ f ≤ 10000000 ∧ e ≤ f)

theorem spec_isVec_eq (a b c d e f : Int) : spec_IsVector.f a b c d e f = some (decide (isVec a b c d e f)) := by
  unfold spec_IsVector.f; rw [spec_part_eq, spec_part_eq, spec_part_eq]
  simp only [Option.bind_some, dec_and]

theorem impl_isVec_eq (a b c d e f : Int) : impl_IsVector.f a b c d e f = some (decide (isVec a b c d e f)) := by
  unfold impl_IsVector.f; rw [impl_isPart_eq, impl_isPart_eq, impl_isPart_eq]
  simp only [Option.bind_some, dec_and]

theorem toVector_eq (a b c d e f : Int) : laws_toVector.f a b c d e f = some (a, b, c, d, e, f) := rfl

theorem FnExactIsVector (a0_0 : Int) (a0_1 : Int) (a0_2 : Int) (a0_3 : Int) (a0_4 : Int) (a0_5 : Int) (h0_0 : (Lit.int .i64 a0_0).wf = true) (h0_1 : (Lit.int .i64 a0_1).wf = true) (h0_2 : (Lit.int .i64 a0_2).wf = true) (h0_3 : (Lit.int .i64 a0_3).wf = true) (h0_4 : (Lit.int .i64 a0_4).wf = true) (h0_5 : (Lit.int .i64 a0_5).wf = true) : laws_FnExactIsVector.f a0_0 a0_1 a0_2 a0_3 a0_4 a0_5 = some true := by
  unfold laws_FnExactIsVector.f
  simp only [toVector_eq, Option.bind_some, spec_isVec_eq, impl_isVec_eq]
  simp

end Go.Proofs.Ytcjhpkknheddkaa.Pure
