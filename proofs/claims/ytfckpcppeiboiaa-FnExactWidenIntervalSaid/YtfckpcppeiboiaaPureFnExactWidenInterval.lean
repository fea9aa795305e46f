/- Proved: for all arguments the law FnExactWidenInterval returns true. Conditions: none. -/
import Derived.Test.YtfckpcppeiboiaaQFnExactWidenIntervalx1
namespace Go.Proofs.Ytfckpcppeiboiaa.Pure
open Go.RowKit Go.Proofs.Ytfckpcppeiboiaa.PFnExactWidenInterval Go.Proofs.YtfckpcppeiboiaaW.PrintWords Go.Proofs.YtfckpcppeiboiaaW.PrintLast Go.Proofs.YtfckpcppeiboiaaW.PrintMore
set_option linter.unusedVariables false
set_option linter.unusedSimpArgs false

theorem wid (n : Int) (h0 : -9223372036854775808 ≤ n) (h1 : n ≤ 9223372036854775807) : wrap64 n = n := by unfold wrap64; omega

theorem impl_in_eq (n lo hi : Int) : impl_in.f n lo hi = some (decide (lo ≤ n ∧ n ≤ hi)) := by
  unfold impl_in.f; by_cases h : n ≥ lo
  · rw [if_pos h]; simp [show lo ≤ n from h]
  · rw [if_neg h]; simp [show ¬ lo ≤ n from h]

theorem spec_in_eq (n lo hi : Int) : spec_l01In.f n lo hi = some (decide (lo ≤ n ∧ n ≤ hi)) := by
  unfold spec_l01In.f; by_cases h : n ≥ lo
  · rw [if_pos h]; simp [show lo ≤ n from h]
  · rw [if_neg h]; simp [show ¬ lo ≤ n from h]

theorem impl_isValue_eq (n : Int) : impl_isValue.f n = some (decide (-1000000000000 ≤ n ∧ n ≤ 1000000000000)) := by
  unfold impl_isValue.f; rw [impl_in_eq]; rfl

theorem spec_is_eq (n : Int) : spec_l01Is.f n = some (decide (-1000000000000 ≤ n ∧ n ≤ 1000000000000)) := by
  unfold spec_l01Is.f; rw [spec_in_eq]; rfl

theorem bind_dec {α : Type} (p : Prop) [Decidable p] (A : Option α) (B : α) : ((some (decide p)).bind fun t => if t = true then A else some B) = if p then A else some B := by
  by_cases h : p <;> simp [h]

theorem ite_and {α : Type} (p q : Prop) [Decidable p] [Decidable q] (A B : α) : (if p then (if q then A else B) else B) = if p ∧ q then A else B := by
  by_cases h : p <;> by_cases h2 : q <;> simp [h, h2]

theorem dec_and (p q : Prop) [Decidable p] [Decidable q] : (if decide p = true then some (decide q) else some false) = some (decide (p ∧ q)) := by
  by_cases h : p <;> simp [h]

theorem some_dec {p q : Prop} [Decidable p] [Decidable q] (h : p ↔ q) : some (decide p) = some (decide q) := by rw [decide_eq_decide.2 h]

theorem impl_isInterval_eq (a b : Int) : impl_IsInterval.f a b = some (decide (-1000000000000 ≤ a ∧ b ≤ 1000000000000 ∧ a ≤ b)) := by
  unfold impl_IsInterval.f
  rw [impl_isValue_eq, impl_isValue_eq]
  simp only [Option.bind_some, dec_and]
  apply some_dec; omega

theorem spec_isInterval_eq (a b : Int) : spec_IsInterval.f a b = some (decide (-1000000000000 ≤ a ∧ b ≤ 1000000000000 ∧ a ≤ b)) := by
  unfold spec_IsInterval.f
  rw [spec_is_eq, spec_is_eq]
  simp only [Option.bind_some, dec_and]
  apply some_dec; omega

abbrev iv (a b : Int) : Prop := -1000000000000 ≤ a ∧ b ≤ 1000000000000 ∧ a ≤ b

def tol (a b : Int) : Int × Int × Int := if (-1000000000000 ≤ a ∧ a ≤ 1000000000000) ∧ (-1000000000000 ≤ b ∧ b ≤ 1000000000000) then (a, b, 0) else (0, 0, 3)

theorem impl_told_eq (a b : Int) : impl_told.f a b = some (tol a b) := by
  unfold impl_told.f tol
  rw [impl_isValue_eq, impl_isValue_eq, bind_dec, bind_dec, ite_and, apply_ite some]

theorem spec_result_eq (a b : Int) : spec_l02Result.f a b = some (tol a b) := by
  unfold spec_l02Result.f tol
  rw [spec_is_eq, spec_is_eq, bind_dec, bind_dec, ite_and, apply_ite some]

theorem eqInterval_refl (a b : Int) : laws_eqInterval.f a b a b = some true := by
  unfold laws_eqInterval.f; rw [if_pos rfl, if_pos rfl]

theorem spec_WidenInterval_eq (a b c : Int) : spec_WidenInterval.f a b c = some (if iv a b then (if 0 ≤ c ∧ c ≤ 1000000000000 then tol (a - c) (b + c) else (0, 0, 2)) else (0, 0, 1)) := by
  unfold spec_WidenInterval.f
  rw [spec_isInterval_eq, spec_in_eq, bind_dec, bind_dec]
  by_cases h : iv a b
  · rw [if_pos h, if_pos h]
    by_cases h2 : 0 ≤ c ∧ c ≤ 1000000000000
    · rw [if_pos h2, if_pos h2, wid _ (by omega) (by omega), wid _ (by omega) (by omega), spec_result_eq]; rfl
    · rw [if_neg h2, if_neg h2]
  · rw [if_neg h, if_neg h]

theorem impl_WidenInterval_eq (a b c : Int) : impl_WidenInterval.f a b c = some (if iv a b then (if 0 ≤ c ∧ c ≤ 1000000000000 then tol (a - c) (b + c) else (0, 0, 2)) else (0, 0, 1)) := by
  unfold impl_WidenInterval.f
  rw [impl_isInterval_eq, impl_in_eq, bind_dec, bind_dec]
  by_cases h : iv a b
  · rw [if_pos h, if_pos h]
    by_cases h2 : 0 ≤ c ∧ c ≤ 1000000000000
    · rw [if_pos h2, if_pos h2, wid _ (by omega) (by omega), wid _ (by omega) (by omega), impl_told_eq]; rfl
    · rw [if_neg h2, if_neg h2]
  · rw [if_neg h, if_neg h]

theorem FnExactWidenInterval (a0_0 : Int) (a0_1 : Int) (a1 : Int) (h0_0 : (Lit.int .i64 a0_0).wf = true) (h0_1 : (Lit.int .i64 a0_1).wf = true) (h1 : (Lit.int .i64 a1).wf = true) : laws_FnExactWidenInterval.f a0_0 a0_1 a1 = some true := by
  unfold laws_FnExactWidenInterval.f laws_toInterval.f
  simp only [Option.bind_some]
  rw [spec_WidenInterval_eq, impl_WidenInterval_eq]; simp only [Option.bind_some, eqInterval_refl, if_true]

end Go.Proofs.Ytfckpcppeiboiaa.Pure
