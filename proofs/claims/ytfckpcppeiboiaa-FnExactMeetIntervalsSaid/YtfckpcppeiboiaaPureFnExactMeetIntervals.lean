/- Proved: for all arguments the law FnExactMeetIntervals returns true. Conditions: none. -/
import Derived.Test.YtfckpcppeiboiaaQFnExactMeetIntervalsx2
namespace Go.Proofs.Ytfckpcppeiboiaa.Pure
open Go.RowKit Go.Proofs.Ytfckpcppeiboiaa.PFnExactMeetIntervals Go.Proofs.YtfckpcppeiboiaaW.PrintWords Go.Proofs.YtfckpcppeiboiaaW.PrintLast Go.Proofs.YtfckpcppeiboiaaW.PrintMore
set_option linter.unusedVariables false
set_option linter.unusedSimpArgs false

theorem impl_in_eq (n lo hi : Int) : impl_in.f n lo hi = some (decide (lo ≤ n ∧ n ≤ hi)) := by
  unfold impl_in.f; by_cases h : n ≥ lo
  · rw [if_pos h]; simp [show lo ≤ n from h]
  · rw [if_neg h]; simp [show ¬ lo ≤ n from h]

theorem spec_in_eq (n lo hi : Int) : spec_l01In.f n lo hi = some (decide (lo ≤ n ∧ n ≤ hi)) := by
  unfold spec_l01In.f; by_cases h : n ≥ lo
  · rw [if_pos h]; simp [show lo ≤ n from h]
  · rw [if_neg h]; simp [show ¬ lo ≤ n from h]

theorem impl_isValue_eq (n : Int) : impl_isValue.f n = some (decide (-1000000000000 ≤ n ∧ n ≤ 1000000000000)) := by
  unfold impl_isValue.f; rw [impl_in_eq]; rfl

theorem spec_is_eq (n : Int) : spec_l01Is.f n = some (decide (-1000000000000 ≤ n ∧ n ≤ 1000000000000)) := by
  unfold spec_l01Is.f; rw [spec_in_eq]; rfl

theorem bind_dec {α : Type} (p : Prop) [Decidable p] (A : Option α) (B : α) : ((some (decide p)).bind fun t => if t = true then A else some B) = if p then A else some B := by
  by_cases h : p <;> simp [h]

theorem dec_and (p q : Prop) [Decidable p] [Decidable q] : (if decide p = true then some (decide q) else some false) = some (decide (p ∧ q)) := by
  by_cases h : p <;> simp [h]

theorem some_dec {p q : Prop} [Decidable p] [Decidable q] (h : p ↔ q) : some (decide p) = some (decide q) := by rw [decide_eq_decide.2 h]

theorem impl_isInterval_eq (a b : Int) : impl_IsInterval.f a b = some (decide (-1000000000000 ≤ a ∧ b ≤ 1000000000000 ∧ a ≤ b)) := by
  unfold impl_IsInterval.f
  rw [impl_isValue_eq, impl_isValue_eq]
  simp only [Option.bind_some, dec_and]
  apply some_dec; omega

theorem spec_isInterval_eq (a b : Int) : spec_IsInterval.f a b = some (decide (-1000000000000 ≤ a ∧ b ≤ 1000000000000 ∧ a ≤ b)) := by
  unfold spec_IsInterval.f
  rw [spec_is_eq, spec_is_eq]
  simp only [Option.bind_some, dec_and]
  apply some_dec; omega

abbrev iv (a b : Int) : Prop := -1000000000000 ≤ a ∧ b ≤ 1000000000000 ∧ a ≤ b

theorem eqInterval_refl (a b : Int) : laws_eqInterval.f a b a b = some true := by
  unfold laws_eqInterval.f; rw [if_pos rfl, if_pos rfl]

theorem spec_two_eq (a b c d : Int) : spec_l02Two.f a b c d = some (decide (iv a b ∧ iv c d)) := by
  unfold spec_l02Two.f; rw [spec_isInterval_eq, spec_isInterval_eq]; simp only [Option.bind_some, dec_and]

theorem chain_not {α : Type} (p q : Prop) [Decidable p] [Decidable q] (J : Bool → Option α) : ((some (decide p)).bind fun t => if t = true then ((some (decide q)).bind fun s => J (!s)) else J true) = J (!decide (p ∧ q)) := by
  by_cases h : p <;> by_cases h2 : q <;> simp [h, h2]

theorem ite_notdec {α : Type} (p : Prop) [Decidable p] (A B : α) : (if (!decide p) = true then A else B) = if p then B else A := by
  by_cases h : p <;> simp [h]

theorem spec_MeetIntervals_eq (a b c d : Int) : spec_MeetIntervals.f a b c d = some (if iv a b ∧ iv c d then (if mx a c ≤ mn b d then (mx a c, mn b d, 0) else (0, 0, 4)) else (0, 0, 1)) := by
  unfold spec_MeetIntervals.f
  rw [spec_two_eq, bind_dec]
  by_cases h : iv a b ∧ iv c d
  · rw [if_pos h, if_pos h]; unfold spec_l02Meet.f; simp only [Option.bind_some]
    by_cases h2 : mx a c ≤ mn b d <;> simp [h2]
  · rw [if_neg h, if_neg h]

theorem impl_MeetIntervals_eq (k : Nat) (a b c d : Int) : impl_MeetIntervals.f (k + 1) a b c d = some (if iv a b ∧ iv c d then (if mx a c ≤ mn b d then (mx a c, mn b d, 0) else (0, 0, 4)) else (0, 0, 1)) := by
  unfold impl_MeetIntervals.f
  rw [impl_isInterval_eq, impl_isInterval_eq, chain_not _ _ (fun t => impl_MeetIntervals.j0 (k + 1) t a b c d)]
  simp only [impl_MeetIntervals.j0]; rw [ite_notdec]
  by_cases h : iv a b ∧ iv c d
  · rw [if_pos h, if_pos h]
    by_cases h2 : mx a c ≤ mn b d
    · rw [if_pos h2, if_neg (by omega)]
    · rw [if_neg h2, if_pos (by omega)]
  · rw [if_neg h, if_neg h]

theorem FnExactMeetIntervals (a0_0 : Int) (a0_1 : Int) (a1_0 : Int) (a1_1 : Int) (h0_0 : (Lit.int .i64 a0_0).wf = true) (h0_1 : (Lit.int .i64 a0_1).wf = true) (h1_0 : (Lit.int .i64 a1_0).wf = true) (h1_1 : (Lit.int .i64 a1_1).wf = true) : ∃ k, laws_FnExactMeetIntervals.f k a0_0 a0_1 a1_0 a1_1 = some true := by
  refine ⟨1, ?_⟩
  unfold laws_FnExactMeetIntervals.f laws_toInterval.f
  simp only [Option.bind_some]
  rw [spec_MeetIntervals_eq, impl_MeetIntervals_eq 0]; simp only [Option.bind_some, eqInterval_refl, if_true]

end Go.Proofs.Ytfckpcppeiboiaa.Pure
