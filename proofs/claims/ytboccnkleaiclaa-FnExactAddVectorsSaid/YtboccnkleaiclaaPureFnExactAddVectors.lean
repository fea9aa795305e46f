/- Proved: for all arguments the law FnExactAddVectors returns true. Conditions: none. -/
import Derived.Test.YtboccnkleaiclaaQFnExactAddVectorsx3
namespace Go.Proofs.Ytboccnkleaiclaa.Pure
open Go.RowKit Go.Proofs.Ytboccnkleaiclaa.PFnExactAddVectors Go.Proofs.YtboccnkleaiclaaW.PrintWords Go.Proofs.YtboccnkleaiclaaW.PrintLast Go.Proofs.YtboccnkleaiclaaW.PrintMore
set_option linter.unusedVariables false
set_option linter.unusedSimpArgs false

theorem wid (n : Int) (h0 : -9223372036854775808 ≤ n) (h1 : n ≤ 9223372036854775807) : wrap64 n = n := by unfold wrap64; omega

theorem impl_in_eq (n lo hi : Int) : impl_in.f n lo hi = some (decide (lo ≤ n ∧ n ≤ hi)) := by
  unfold impl_in.f; by_cases h : n ≥ lo
  · rw [if_pos h]; simp [show lo ≤ n from h]
  · rw [if_neg h]; simp [show ¬ lo ≤ n from h]

theorem spec_in_eq (n lo hi : Int) : spec_l01In.f n lo hi = some (decide (lo ≤ n ∧ n ≤ hi)) := by
  unfold spec_l01In.f; by_cases h : n ≥ lo
  · rw [if_pos h]; simp [show lo ≤ n from h]
  · rw [if_neg h]; simp [show ¬ lo ≤ n from h]

theorem impl_isValue_eq (n : Int) : impl_isValue.f n = some (decide (-1000000000000 ≤ n ∧ n ≤ 1000000000000)) := by
  unfold impl_isValue.f; rw [impl_in_eq]; rfl

theorem bind_dec {α : Type} (p : Prop) [Decidable p] (A : Option α) (B : α) : ((some (decide p)).bind fun t => if t = true then A else some B) = if p then A else some B := by
  by_cases h : p <;> simp [h]

theorem dec_and (p q : Prop) [Decidable p] [Decidable q] : (if decide p = true then some (decide q) else some false) = some (decide (p ∧ q)) := by
  by_cases h : p <;> simp [h]

theorem some_dec {p q : Prop} [Decidable p] [Decidable q] (h : p ↔ q) : some (decide p) = some (decide q) := by rw [decide_eq_decide.2 h]

theorem impl_isInterval_eq (a b : Int) : impl_IsInterval.f a b = some (decide (-1000000000000 ≤ a ∧ b ≤ 1000000000000 ∧ a ≤ b)) := by
  unfold impl_IsInterval.f
  rw [impl_isValue_eq, impl_isValue_eq]
  simp only [Option.bind_some, dec_and]
  apply some_dec; omega

theorem impl_within_eq (a b m : Int) (h0 : 0 ≤ m) (h1 : m ≤ 1000000000000) : impl_Interval_within.f a b m = some (decide (-m ≤ a ∧ a ≤ m ∧ -m ≤ b ∧ b ≤ m)) := by
  unfold impl_Interval_within.f
  rw [wid (-m) (by omega) (by omega), impl_in_eq, impl_in_eq]
  simp only [Option.bind_some, dec_and]
  apply some_dec; omega

theorem eqInterval_refl (a b : Int) : laws_eqInterval.f a b a b = some true := by
  unfold laws_eqInterval.f; rw [if_pos rfl, if_pos rfl]

theorem chain_not {α : Type} (p q : Prop) [Decidable p] [Decidable q] (J : Bool → Option α) : ((some (decide p)).bind fun t => if t = true then ((some (decide q)).bind fun s => J (!s)) else J true) = J (!decide (p ∧ q)) := by
  by_cases h : p <;> by_cases h2 : q <;> simp [h, h2]

theorem ite_notdec {α : Type} (p : Prop) [Decidable p] (A B : α) : (if (!decide p) = true then A else B) = if p then B else A := by
  by_cases h : p <;> simp [h]

theorem impl_isPart_eq (a b : Int) : impl_isPart.f a b = some (decide (-10000000 ≤ a ∧ b ≤ 10000000 ∧ a ≤ b)) := by
  unfold impl_isPart.f
  rw [impl_isInterval_eq, impl_within_eq _ _ _ (by omega) (by omega)]
  simp only [Option.bind_some, dec_and]
  apply some_dec; omega

theorem spec_part_eq (a b : Int) : spec_l06Part.f a b = some (decide (-10000000 ≤ a ∧ b ≤ 10000000 ∧ a ≤ b)) := by
  unfold spec_l06Part.f
  rw [spec_in_eq, spec_in_eq]
  simp only [Option.bind_some, dec_and]
  apply some_dec; omega

abbrev isVec (a b c d e f : Int) : Prop := (-10000000 ≤ a ∧ b ≤ 10000000 ∧ a ≤ b) ∧ (-10000000 ≤ c ∧ d ≤ 10000000 ∧ c ≤ d) ∧ (-10000000 ≤ e ∧ f ≤ 10000000 ∧ e ≤ f)

theorem spec_isVec_eq (a b c d e f : Int) : spec_IsVector.f a b c d e f = some (decide (isVec a b c d e f)) := by
  unfold spec_IsVector.f; rw [spec_part_eq, spec_part_eq, spec_part_eq]
  simp only [Option.bind_some, dec_and]

theorem impl_isVec_eq (a b c d e f : Int) : impl_IsVector.f a b c d e f = some (decide (isVec a b c d e f)) := by
  unfold impl_IsVector.f; rw [impl_isPart_eq, impl_isPart_eq, impl_isPart_eq]
  simp only [Option.bind_some, dec_and]

theorem toVector_eq (a b c d e f : Int) : laws_toVector.f a b c d e f = some (a, b, c, d, e, f) := rfl

theorem eqVector_refl (a b c d e f : Int) : laws_eqVector.f a b c d e f a b c d e f = some true := by
  unfold laws_eqVector.f; rw [eqInterval_refl, eqInterval_refl, eqInterval_refl]; rfl

def bnd (a b c d e f : Int) : Int × Int × Int × Int × Int × Int × Int := if isVec a b c d e f then (a, b, c, d, e, f, 0) else (0, 0, 0, 0, 0, 0, 3)

theorem impl_bounded_eq (a b c d e f : Int) : impl_bounded.f a b c d e f = some (bnd a b c d e f) := by
  unfold impl_bounded.f bnd; rw [impl_isVec_eq, bind_dec, apply_ite some]

theorem spec_l06Result_eq (a b c d e f : Int) : spec_l06Result.f a b c d e f = some (bnd a b c d e f) := by
  unfold spec_l06Result.f bnd; rw [spec_isVec_eq, bind_dec, apply_ite some]

theorem impl_plus_eq (a b c d : Int) (h1 : -4000000000000000000 ≤ a ∧ a ≤ 4000000000000000000) (h2 : -4000000000000000000 ≤ b ∧ b ≤ 4000000000000000000) (h3 : -4000000000000000000 ≤ c ∧ c ≤ 4000000000000000000) (h4 : -4000000000000000000 ≤ d ∧ d ≤ 4000000000000000000) : impl_Interval_plus.f a b c d = some (a + c, b + d) := by
  unfold impl_Interval_plus.f; rw [wid _ (by omega) (by omega), wid _ (by omega) (by omega)]

theorem spec_add_eq (a b c d : Int) (h1 : -4000000000000000000 ≤ a ∧ a ≤ 4000000000000000000) (h2 : -4000000000000000000 ≤ b ∧ b ≤ 4000000000000000000) (h3 : -4000000000000000000 ≤ c ∧ c ≤ 4000000000000000000) (h4 : -4000000000000000000 ≤ d ∧ d ≤ 4000000000000000000) : spec_l02Add.f a b c d = some (a + c, b + d) := by
  unfold spec_l02Add.f; rw [wid _ (by omega) (by omega), wid _ (by omega) (by omega)]

def addV (a b c d e f a' b' c' d' e' f' : Int) : Int × Int × Int × Int × Int × Int × Int :=
  if isVec a b c d e f ∧ isVec a' b' c' d' e' f' then bnd (a + a') (b + b') (c + c') (d + d') (e + e') (f + f') else (0, 0, 0, 0, 0, 0, 1)

theorem spec_AddVectors_eq (k : Nat) (a b c d e f a' b' c' d' e' f' : Int) : spec_AddVectors.f (k + 1) a b c d e f a' b' c' d' e' f' = some (addV a b c d e f a' b' c' d' e' f') := by
  unfold spec_AddVectors.f addV
  rw [spec_isVec_eq, spec_isVec_eq, chain_not _ _ (fun t => spec_AddVectors.j0 (k + 1) t a b c d e f a' b' c' d' e' f')]
  simp only [spec_AddVectors.j0]; rw [ite_notdec]
  by_cases h : isVec a b c d e f ∧ isVec a' b' c' d' e' f'
  · rw [if_pos h, if_pos h]; unfold spec_l06Add.f
    rw [spec_add_eq _ _ _ _ (by omega) (by omega) (by omega) (by omega), spec_add_eq _ _ _ _ (by omega) (by omega) (by omega) (by omega), spec_add_eq _ _ _ _ (by omega) (by omega) (by omega) (by omega)]
    simp only [Option.bind_some]; rw [spec_l06Result_eq]; rfl
  · rw [if_neg h, if_neg h]

theorem impl_AddVectors_eq (k : Nat) (a b c d e f a' b' c' d' e' f' : Int) : impl_AddVectors.f (k + 1) a b c d e f a' b' c' d' e' f' = some (addV a b c d e f a' b' c' d' e' f') := by
  unfold impl_AddVectors.f addV
  rw [impl_isVec_eq, impl_isVec_eq, chain_not _ _ (fun t => impl_AddVectors.j0 (k + 1) t a b c d e f a' b' c' d' e' f')]
  simp only [impl_AddVectors.j0]; rw [ite_notdec]
  by_cases h : isVec a b c d e f ∧ isVec a' b' c' d' e' f'
  · rw [if_pos h, if_pos h]
    rw [impl_plus_eq _ _ _ _ (by omega) (by omega) (by omega) (by omega), impl_plus_eq _ _ _ _ (by omega) (by omega) (by omega) (by omega), impl_plus_eq _ _ _ _ (by omega) (by omega) (by omega) (by omega)]
    simp only [Option.bind_some]; rw [impl_bounded_eq]; rfl
  · rw [if_neg h, if_neg h]

theorem FnExactAddVectors (a0_0 : Int) (a0_1 : Int) (a0_2 : Int) (a0_3 : Int) (a0_4 : Int) (a0_5 : Int) (a1_0 : Int) (a1_1 : Int) (a1_2 : Int) (a1_3 : Int) (a1_4 : Int) (a1_5 : Int) (h0_0 : (Lit.int .i64 a0_0).wf = true) (h0_1 : (Lit.int .i64 a0_1).wf = true) (h0_2 : (Lit.int .i64 a0_2).wf = true) (h0_3 : (Lit.int .i64 a0_3).wf = true) (h0_4 : (Lit.int .i64 a0_4).wf = true) (h0_5 : (Lit.int .i64 a0_5).wf = true) (h1_0 : (Lit.int .i64 a1_0).wf = true) (h1_1 : (Lit.int .i64 a1_1).wf = true) (h1_2 : (Lit.int .i64 a1_2).wf = true) (h1_3 : (Lit.int .i64 a1_3).wf = true) (h1_4 : (Lit.int .i64 a1_4).wf = true) (h1_5 : (Lit.int .i64 a1_5).wf = true) : ∃ k, laws_FnExactAddVectors.f k a0_0 a0_1 a0_2 a0_3 a0_4 a0_5 a1_0 a1_1 a1_2 a1_3 a1_4 a1_5 = some true := by
  refine ⟨1, ?_⟩
  unfold laws_FnExactAddVectors.f
  simp only [toVector_eq, Option.bind_some]
  rw [spec_AddVectors_eq 0, impl_AddVectors_eq 0]; simp only [Option.bind_some, eqVector_refl, if_true]

end Go.Proofs.Ytboccnkleaiclaa.Pure
