/- Proved: for every code the law FnAngles returns true. Conditions: none. -/
import Derived.Test.YtcnaocjhfgnphaaQFnAnglesx3
namespace Go.Proofs.Ytcnaocjhfgnphaa.Pure
open Go.RowKit Go.Proofs.Ytcnaocjhfgnphaa.PFnAngles Go.Proofs.YtcnaocjhfgnphaaW.PrintWords Go.Proofs.YtcnaocjhfgnphaaW.PrintLast Go.Proofs.YtcnaocjhfgnphaaW.PrintMore
set_option linter.unusedVariables false
set_option linter.unusedSimpArgs false

theorem wid (n : Int) (h0 : -9223372036854775808 ≤ n) (h1 : n ≤ 9223372036854775807) : wrap64 n = n := by unfold wrap64; omega

theorem tmodP (a b : Int) (h : 0 ≤ a) : a.tmod b = a % b := Int.tmod_eq_emod_of_nonneg h

theorem tdivP (a b : Int) (h : 0 ≤ a) : a.tdiv b = a / b := Int.tdiv_eq_ediv_of_nonneg h

theorem ediv_bounds (a b : Int) (hb : 0 < b) : b * (a / b) + a % b = a ∧ 0 ≤ a % b ∧ a % b < b := ⟨Int.mul_ediv_add_emod a b, Int.emod_nonneg _ (by omega), Int.emod_lt_of_pos _ hb⟩

/-- Go's truncated quotient and remainder by a positive number, in Lean's floor form. -/
theorem tdiv_pos_spec (a b : Int) (hb : 0 < b) : a.tmod b = (if 0 ≤ a ∨ a % b = 0 then a % b else a % b - b) ∧ a.tdiv b = (if 0 ≤ a ∨ a % b = 0 then a / b else a / b + 1) := by
  have h1 : a.tdiv b = (if 0 ≤ a ∨ a % b = 0 then a / b else a / b + 1) := by
    rw [Int.tdiv_eq_ediv]
    have e : b.sign = 1 := Int.sign_eq_one_of_pos hb
    rw [e]
    have : (b ∣ a) ↔ a % b = 0 := Int.dvd_iff_emod_eq_zero
    by_cases h : 0 ≤ a ∨ a % b = 0
    · rw [if_pos h, if_pos (by rw [this]; exact h)]; omega
    · rw [if_neg h, if_neg (by rw [this]; exact h)]
  refine ⟨?_, h1⟩
  have h2 := Int.mul_tdiv_add_tmod a b
  have h3 := Int.mul_ediv_add_emod a b
  rw [h1] at h2
  by_cases h : 0 ≤ a ∨ a % b = 0
  · rw [if_pos h] at h2 ⊢; omega
  · rw [if_neg h] at h2 ⊢; rw [Int.mul_add] at h2; omega

theorem ediv_range (a b : Int) (hb : 0 < b) (A : Int) (h0 : -A ≤ a) (h1 : a ≤ A) (hA : 0 ≤ A) : -A ≤ a / b ∧ a / b ≤ A := by
  constructor
  · rw [Int.le_ediv_iff_mul_le hb]
    have : -A * b ≤ -A * 1 := by
      have : A * 1 ≤ A * b := Int.mul_le_mul_of_nonneg_left (by omega) hA
      rw [Int.neg_mul, Int.neg_mul]; omega
    omega
  · have : a / b ≤ A / b := Int.ediv_le_ediv hb h1
    have h2 : A / b ≤ A := Int.ediv_le_self _ hA
    omega

theorem impl_in_eq (n lo hi : Int) : impl_in.f n lo hi = some (decide (lo ≤ n ∧ n ≤ hi)) := by
  unfold impl_in.f; by_cases h : n ≥ lo
  · rw [if_pos h]; simp [show lo ≤ n from h]
  · rw [if_neg h]; simp [show ¬ lo ≤ n from h]

theorem spec_in_eq (n lo hi : Int) : spec_l01In.f n lo hi = some (decide (lo ≤ n ∧ n ≤ hi)) := by
  unfold spec_l01In.f; by_cases h : n ≥ lo
  · rw [if_pos h]; simp [show lo ≤ n from h]
  · rw [if_neg h]; simp [show ¬ lo ≤ n from h]

theorem impl_isValue_eq (n : Int) : impl_isValue.f n = some (decide (-1000000000000 ≤ n ∧ n ≤ 1000000000000)) := by
  unfold impl_isValue.f; rw [impl_in_eq]; rfl

theorem spec_is_eq (n : Int) : spec_l01Is.f n = some (decide (-1000000000000 ≤ n ∧ n ≤ 1000000000000)) := by
  unfold spec_l01Is.f; rw [spec_in_eq]; rfl

theorem impl_floor_pos (a b : Int) (hb : 0 < b) (h0 : -9223372036854775807 ≤ a) (h1 : a ≤ 9223372036854775807) : impl_floor.f a b = some (a / b) := by
  have hr := ediv_range a b hb 9223372036854775807 h0 h1 (by omega)
  obtain ⟨e1, e2⟩ := tdiv_pos_spec a b hb
  have hm := Int.emod_nonneg a (show b ≠ 0 by omega)
  have hm2 := Int.emod_lt_of_pos a hb
  unfold impl_floor.f
  rw [if_neg (by omega), e1, e2]
  by_cases h : 0 ≤ a ∨ a % b = 0
  · rw [if_pos h, if_pos h, wid _ (by omega) (by omega)]
    by_cases hz : a % b = 0
    · rw [if_pos hz]
    · rw [if_neg hz, if_neg]
      have : ¬ (a % b < 0) := by omega
      have : ¬ (b < 0) := by omega
      simp [*]
  · rw [if_neg h, if_neg h, if_neg (by omega), if_pos]
    · have : a / b + 1 ≤ 0 := by
        have := Int.ediv_neg_of_neg_of_pos (show a < 0 by omega) hb
        omega
      rw [wid (a / b + 1) (by omega) (by omega), wid _ (by omega) (by omega)]; congr 1; omega
    · have : (a % b - b < 0) := by omega
      have : ¬ (b < 0) := by omega
      simp [*]

theorem impl_mod_pos (a b : Int) (hb : 0 < b) (hb1 : b ≤ 9223372036854775807) (h0 : -9223372036854775807 ≤ a) (h1 : a ≤ 9223372036854775807) (hab : -9223372036854775807 ≤ a - b) : impl_mod.f a b = some (a % b) := by
  obtain ⟨e, m0, m1⟩ := ediv_bounds a b hb
  unfold impl_mod.f
  rw [impl_floor_pos a b hb h0 h1]
  have e2 : a / b * b = a - a % b := by rw [Int.mul_comm]; omega
  simp only [Option.bind_some]
  rw [e2, wid (a - a % b) (by omega) (by omega), wid _ (by omega) (by omega)]; congr 1; omega

theorem spec_mod_pos (a b : Int) (hb : 0 < b) (hb1 : b ≤ 4611686018427387904) : spec_l01Mod.f a b = some (a % b) := by
  unfold spec_l01Mod.f
  rw [if_neg (by omega)]
  obtain ⟨e1, e2⟩ := tdiv_pos_spec a b hb
  have m0 := Int.emod_nonneg a (show b ≠ 0 by omega)
  have m1 := Int.emod_lt_of_pos a hb
  rw [e1]
  by_cases h : 0 ≤ a ∨ a % b = 0
  · rw [if_pos h, wid _ (by omega) (by omega), tmodP _ _ (by omega), Int.add_emod_right, Int.emod_emod]
  · rw [if_neg h, wid _ (by omega) (by omega), tmodP _ _ (by omega)]
    have : a % b - b + b = a % b := by omega
    rw [this, Int.emod_emod]

theorem spec_floor_pos (a b : Int) (hb : 0 < b) (h0 : -9223372036854775807 ≤ a) (h1 : a ≤ 9223372036854775807) : spec_l01Floor.f a b = some (a / b) := by
  have hr := ediv_range a b hb 9223372036854775807 h0 h1 (by omega)
  obtain ⟨e1, e2⟩ := tdiv_pos_spec a b hb
  have hm := Int.emod_nonneg a (show b ≠ 0 by omega)
  have hm2 := Int.emod_lt_of_pos a hb
  unfold spec_l01Floor.f
  rw [if_neg (by omega), if_neg (by omega), e1, e2]
  by_cases h : 0 ≤ a ∨ a % b = 0
  · rw [if_pos h, if_pos h, if_neg (by omega), wid _ (by omega) (by omega)]
  · rw [if_neg h, if_neg h, if_pos (by omega)]
    have : a / b + 1 ≤ 0 := by
      have := Int.ediv_neg_of_neg_of_pos (show a < 0 by omega) hb
      omega
    rw [wid (a / b + 1) (by omega) (by omega), wid _ (by omega) (by omega)]; congr 1; omega

theorem bind_dec {α : Type} (p : Prop) [Decidable p] (A : Option α) (B : α) : ((some (decide p)).bind fun t => if t = true then A else some B) = if p then A else some B := by
  by_cases h : p <;> simp [h]

theorem ite_and {α : Type} (p q : Prop) [Decidable p] [Decidable q] (A B : α) : (if p then (if q then A else B) else B) = if p ∧ q then A else B := by
  by_cases h : p <;> by_cases h2 : q <;> simp [h, h2]

theorem chain_not {α : Type} (p q : Prop) [Decidable p] [Decidable q] (J : Bool → Option α) : ((some (decide p)).bind fun t => if t = true then ((some (decide q)).bind fun s => J (!s)) else J true) = J (!decide (p ∧ q)) := by
  by_cases h : p <;> by_cases h2 : q <;> simp [h, h2]

theorem ite_notdec {α : Type} (p : Prop) [Decidable p] (A B : α) : (if (!decide p) = true then A else B) = if p then B else A := by
  by_cases h : p <;> simp [h]

theorem impl_plain_eq (a : Int) (h0 : -9000000000000000000 ≤ a) (h1 : a ≤ 9000000000000000000) : impl_plain.f a = some (a % 1296000) := by
  unfold impl_plain.f; rw [impl_mod_pos a _ (by omega) (by omega) (by omega) (by omega) (by omega)]; rfl

theorem spec_plain_eq (a : Int) : spec_l03Plain.f a = some (a % 1296000) := by
  unfold spec_l03Plain.f; rw [spec_mod_pos a _ (by omega) (by omega)]; rfl

def sgn (a : Int) : Int := (a + 648000) % 1296000 - 648000

theorem impl_signed_eq (a : Int) (h0 : -9000000000000000000 ≤ a) (h1 : a ≤ 9000000000000000000) : impl_signed.f a = some (sgn a) := by
  unfold impl_signed.f sgn; rw [wid _ (by omega) (by omega), impl_mod_pos _ _ (by omega) (by omega) (by omega) (by omega) (by omega)]
  simp only [Option.bind_some]; rw [wid _ (by omega) (by omega)]

theorem spec_signed_eq (a : Int) : spec_l03Signed.f a = some (sgn a) := by
  unfold spec_l03Signed.f sgn; rw [spec_plain_eq]
  simp only [Option.bind_some]
  by_cases h : a % 1296000 ≥ 648000
  · rw [if_pos h, wid _ (by omega) (by omega)]; congr 1; omega
  · rw [if_neg h]; congr 1; omega

theorem sgn_range (a : Int) : -648000 ≤ sgn a ∧ sgn a < 648000 := by unfold sgn; omega

theorem chain_notv {α : Type} (a b : Int) (J : Bool → Option α) : ((some (decide (-1000000000000 ≤ a ∧ a ≤ 1000000000000))).bind fun t => if t = true then ((some (decide (-1000000000000 ≤ b ∧ b ≤ 1000000000000))).bind fun s => J (!s)) else J true) = J (!decide ((-1000000000000 ≤ a ∧ a ≤ 1000000000000) ∧ (-1000000000000 ≤ b ∧ b ≤ 1000000000000))) :=
  chain_not _ _ J

theorem spec_MeanAngle_eq (k : Nat) (a b : Int) : spec_MeanAngle.f (k + 1) a b = some (if (-1000000000000 ≤ a ∧ a ≤ 1000000000000) ∧ (-1000000000000 ≤ b ∧ b ≤ 1000000000000) then ((a + sgn (b - a) / 2) % 1296000, 0) else (0, 2)) := by
  unfold spec_MeanAngle.f
  rw [spec_is_eq, spec_is_eq, chain_notv a b (fun t => spec_MeanAngle.j0 (k + 1) a b t)]
  simp only [spec_MeanAngle.j0]; rw [ite_notdec]
  by_cases h : (-1000000000000 ≤ a ∧ a ≤ 1000000000000) ∧ (-1000000000000 ≤ b ∧ b ≤ 1000000000000)
  · have := sgn_range (b - a)
    rw [if_pos h, if_pos h, wid (b - a) (by omega) (by omega), spec_signed_eq]; simp only [Option.bind_some]
    rw [spec_floor_pos _ _ (by omega) (by omega) (by omega)]; simp only [Option.bind_some]
    rw [wid _ (by omega) (by omega), spec_plain_eq]; rfl
  · rw [if_neg h, if_neg h]

theorem impl_MeanAngle_eq (k : Nat) (a b : Int) : impl_MeanAngle.f (k + 1) a b = some (if (-1000000000000 ≤ a ∧ a ≤ 1000000000000) ∧ (-1000000000000 ≤ b ∧ b ≤ 1000000000000) then ((a + sgn (b - a) / 2) % 1296000, 0) else (0, 2)) := by
  unfold impl_MeanAngle.f
  rw [impl_isValue_eq, impl_isValue_eq, chain_notv a b (fun t => impl_MeanAngle.j0 (k + 1) a b t)]
  simp only [impl_MeanAngle.j0]; rw [ite_notdec]
  by_cases h : (-1000000000000 ≤ a ∧ a ≤ 1000000000000) ∧ (-1000000000000 ≤ b ∧ b ≤ 1000000000000)
  · have := sgn_range (b - a)
    rw [if_pos h, if_pos h, wid (b - a) (by omega) (by omega), impl_signed_eq _ (by omega) (by omega)]; simp only [Option.bind_some]
    rw [impl_floor_pos _ _ (by omega) (by omega) (by omega)]; simp only [Option.bind_some]
    rw [wid _ (by omega) (by omega), impl_plain_eq _ (by omega) (by omega)]; rfl
  · rw [if_neg h, if_neg h]

abbrev isB (a b : Int) : Prop := (-1000000000000 ≤ a ∧ a ≤ 1000000000000) ∧ (-1000000000000 ≤ b ∧ b ≤ 1000000000000)

theorem spec_TurnBetween_eq (a b : Int) : spec_TurnBetween.f a b = some (if isB a b then (sgn (b - a), 0) else (0, 2)) := by
  unfold spec_TurnBetween.f
  rw [spec_is_eq, spec_is_eq, bind_dec, bind_dec, ite_and]
  by_cases h : isB a b
  · rw [if_pos h, if_pos h, wid (b - a) (by omega) (by omega), spec_signed_eq]; rfl
  · rw [if_neg h, if_neg h]

theorem impl_TurnBetween_eq (a b : Int) : impl_TurnBetween.f a b = some (if isB a b then (sgn (b - a), 0) else (0, 2)) := by
  unfold impl_TurnBetween.f
  rw [impl_isValue_eq, impl_isValue_eq, bind_dec, bind_dec, ite_and]
  by_cases h : isB a b
  · rw [if_pos h, if_pos h, wid (b - a) (by omega) (by omega), impl_signed_eq _ (by omega) (by omega)]; rfl
  · rw [if_neg h, if_neg h]

theorem spec_PlainAngle_eq (a : Int) : spec_PlainAngle.f a = some (if -1000000000000 ≤ a ∧ a ≤ 1000000000000 then (a % 1296000, 0) else (0, 2)) := by
  unfold spec_PlainAngle.f; rw [spec_is_eq, bind_dec, spec_plain_eq]; simp only [Option.bind_some]; rw [apply_ite some]

theorem impl_PlainAngle_eq (a : Int) : impl_PlainAngle.f a = some (if -1000000000000 ≤ a ∧ a ≤ 1000000000000 then (a % 1296000, 0) else (0, 2)) := by
  unfold impl_PlainAngle.f; rw [impl_isValue_eq, bind_dec]
  by_cases h : -1000000000000 ≤ a ∧ a ≤ 1000000000000
  · rw [if_pos h, if_pos h, impl_plain_eq _ (by omega) (by omega)]; rfl
  · rw [if_neg h, if_neg h]

theorem spec_SignedAngle_eq (a : Int) : spec_SignedAngle.f a = some (if -1000000000000 ≤ a ∧ a ≤ 1000000000000 then (sgn a, 0) else (0, 2)) := by
  unfold spec_SignedAngle.f; rw [spec_is_eq, bind_dec, spec_signed_eq]; simp only [Option.bind_some]; rw [apply_ite some]

theorem impl_SignedAngle_eq (a : Int) : impl_SignedAngle.f a = some (if -1000000000000 ≤ a ∧ a ≤ 1000000000000 then (sgn a, 0) else (0, 2)) := by
  unfold impl_SignedAngle.f; rw [impl_isValue_eq, bind_dec]
  by_cases h : -1000000000000 ≤ a ∧ a ≤ 1000000000000
  · rw [if_pos h, if_pos h, impl_signed_eq _ (by omega) (by omega)]; rfl
  · rw [if_neg h, if_neg h]

/-- A source of draws over the code l: how many of its bytes are used, and its seed. -/
def src (l : List Int) (t s : Int) : Prop := (0 ≤ t ∧ t ≤ (l.length : Int)) ∧ (l.length ≤ 4096 ∧ ∀ x ∈ l, 0 ≤ x ∧ x ≤ 255) ∧ (0 ≤ s ∧ s < 2147483647)

theorem rd_byte (l : List Int) (h : ∀ x ∈ l, 0 ≤ x ∧ x ≤ 255) (i : Int) : 0 ≤ rd l i ∧ rd l i ≤ 255 := by
  unfold rd
  by_cases c : i.toNat < l.length
  · rw [List.getD_eq_getElem?_getD, List.getElem?_eq_getElem c]; exact h _ (List.getElem_mem c)
  · rw [List.getD_eq_getElem?_getD, List.getElem?_eq_none (by omega)]; simp

theorem from_loop (l : List Int) (hl : l.length ≤ 4096) (hb : ∀ x ∈ l, 0 ≤ x ∧ x ≤ 255) : ∀ (d : Nat) (i s : Int), 0 ≤ i → 64 - i ≤ d → 0 ≤ s → s < 2147483647 →
    ∃ s', (0 ≤ s' ∧ s' < 2147483647) ∧ ∀ k, d < k → spec_l01From.l0 k l i l 0 s = some (l, 0, s') := by
  intro d
  induction d with
  | zero =>
    intro i s h0 h1 h2 h3
    refine ⟨s, ⟨h2, h3⟩, fun k hk => ?_⟩
    obtain ⟨k, rfl⟩ : ∃ z, k = z + 1 := ⟨k - 1, by omega⟩
    simp only [spec_l01From.l0]
    by_cases c : i < (l.length : Int)
    · rw [if_pos c, if_neg (by omega)]
    · rw [if_neg c]
  | succ d ih =>
    intro i s h0 h1 h2 h3
    by_cases c : i < (l.length : Int)
    · by_cases c2 : i < 64
      · have hr := rd_byte l hb i
        have e1 : wrap64 (s * 71) = s * 71 := wid _ (by omega) (by omega)
        have e2 : wrap64 (rd l i) = rd l i := wid _ (by omega) (by omega)
        have e3 : wrap64 (s * 71 + rd l i) = s * 71 + rd l i := wid _ (by omega) (by omega)
        have e4 : Int.tmod (s * 71 + rd l i) 2147483647 = (s * 71 + rd l i) % 2147483647 := tmodP _ _ (by omega)
        obtain ⟨s', hs, hk⟩ := ih (i + 1) ((s * 71 + rd l i) % 2147483647) (by omega) (by omega) (by omega) (by omega)
        refine ⟨s', hs, fun k hk' => ?_⟩
        obtain ⟨k, rfl⟩ : ∃ z, k = z + 1 := ⟨k - 1, by omega⟩
        simp only [spec_l01From.l0]
        rw [if_pos c, if_pos c2, if_pos h0, e1, e2, e3, e4, wid (i + 1) (by omega) (by omega)]
        exact hk k (by omega)
      · refine ⟨s, ⟨h2, h3⟩, fun k hk => ?_⟩
        obtain ⟨k, rfl⟩ : ∃ z, k = z + 1 := ⟨k - 1, by omega⟩
        simp only [spec_l01From.l0]; rw [if_pos c, if_neg c2]
    · refine ⟨s, ⟨h2, h3⟩, fun k hk => ?_⟩
      obtain ⟨k, rfl⟩ : ∃ z, k = z + 1 := ⟨k - 1, by omega⟩
      simp only [spec_l01From.l0]; rw [if_neg c]

theorem from_eq (l : List Int) (hl : l.length ≤ 4096) (hb : ∀ x ∈ l, 0 ≤ x ∧ x ≤ 255) : ∃ s, src l 0 s ∧ ∀ k, 64 < k → spec_l01From.f k l = some (l, 0, s) := by
  obtain ⟨s, hs, hk⟩ := from_loop l hl hb 64 0 21013 (by omega) (by omega) (by omega) (by omega)
  exact ⟨s, ⟨⟨by omega, by omega⟩, ⟨hl, hb⟩, hs⟩, hk⟩

theorem next_eq {l : List Int} {t s : Int} (h : src l t s) (n : Int) (hn : n ≤ 1000000000000000000) : ∃ v t' s', spec_l01Next.f l t s n = some (v, t', s') ∧ src l t' s' ∧ 0 ≤ v ∧ (v < n ∨ v = 0 ∧ n ≤ 1) := by
  obtain ⟨⟨t0, t1⟩, ⟨l0, l1⟩, s0, s1⟩ := h
  unfold spec_l01Next.f
  by_cases c : n ≤ 1
  · rw [if_pos c]; exact ⟨0, t, s, rfl, ⟨⟨t0, t1⟩, ⟨l0, l1⟩, s0, s1⟩, by omega, .inr ⟨rfl, c⟩⟩
  · have e1 : wrap64 (s * 48271) = s * 48271 := wid _ (by omega) (by omega)
    have e2 : wrap64 (s * 48271 + 29) = s * 48271 + 29 := wid _ (by omega) (by omega)
    have e3 : Int.tmod (s * 48271 + 29) 2147483647 = (s * 48271 + 29) % 2147483647 := tmodP _ _ (by omega)
    rw [if_neg c, e1, e2, e3]
    generalize hq : (s * 48271 + 29) % 2147483647 = q
    have q0 : 0 ≤ q ∧ q < 2147483647 := by omega
    have e4 : wrap64 (Int.tdiv q 31) = q / 31 := by rw [tdivP _ _ q0.1]; exact wid _ (by omega) (by omega)
    have n0 : ¬ n = 0 := by omega
    rw [e4]
    have hm : ∀ x : Int, 0 ≤ x → 0 ≤ Int.tmod x n ∧ Int.tmod x n < n := by
      intro x hx
      rw [tmodP _ _ hx]; exact ⟨Int.emod_nonneg _ (by omega), Int.emod_lt_of_pos _ (by omega)⟩
    by_cases c1 : t < (l.length : Int)
    · have hr := rd_byte l l1 t
      have e5 : wrap64 (t + 1) = t + 1 := wid _ (by omega) (by omega)
      have e6 : wrap64 (rd l t) = rd l t := wid _ (by omega) (by omega)
      have e7 : wrap64 (q / 31 + rd l t) = q / 31 + rd l t := wid _ (by omega) (by omega)
      have e8 : wrap64 (t + 1 - 1) = t := by rw [show t + 1 - 1 = t by omega]; exact wid _ (by omega) (by omega)
      rw [if_pos c1, if_pos t0, e5, e8, e6, e7, if_neg n0, if_neg n0, if_pos t0, if_pos c1]
      have hs' : src l (t + 1) q := ⟨⟨by omega, by omega⟩, ⟨l0, l1⟩, q0.1, q0.2⟩
      have a1 := hm (rd l t) hr.1
      have a2 := hm (q / 31 + rd l t) (by omega)
      by_cases c2 : n ≤ 256
      · rw [if_pos c2]
        by_cases c3 : Int.tmod (t + 1) 2 = 0
        · rw [if_pos c3]; exact ⟨_, _, _, rfl, hs', a1.1, .inl a1.2⟩
        · rw [if_neg c3]; exact ⟨_, _, _, rfl, hs', a2.1, .inl a2.2⟩
      · rw [if_neg c2]; exact ⟨_, _, _, rfl, hs', a2.1, .inl a2.2⟩
    · have a3 := hm (q / 31) (by omega)
      rw [if_neg c1, if_neg n0]; exact ⟨_, _, _, rfl, ⟨⟨t0, t1⟩, ⟨l0, l1⟩, q0.1, q0.2⟩, a3.1, .inl a3.2⟩

theorem pick_eq {l : List Int} {t s : Int} (h : src l t s) (xs : List Int) (h1 : 0 < xs.length) (h2 : xs.length ≤ 100) : ∃ v t' s', spec_l01Pick.f l t s xs = some (v, t', s') ∧ src l t' s' ∧ v ∈ xs := by
  obtain ⟨v, t', s', e, hs, v0, v1⟩ := next_eq h (xs.length : Int) (by omega)
  unfold spec_l01Pick.f
  rw [e]; simp only [Option.bind_some]
  have hv : v < (xs.length : Int) := by omega
  rw [if_pos v0, if_pos hv]
  refine ⟨_, _, _, rfl, hs, ?_⟩
  unfold rd
  have hlt : v.toNat < xs.length := by omega
  rw [List.getD_eq_getElem?_getD, List.getElem?_eq_getElem hlt]; exact List.getElem_mem hlt

theorem drawValue_eq {l : List Int} {t s : Int} (h : src l t s) : ∃ v t' s', spec_l01DrawValue.f l t s = some (v, t', s') ∧ src l t' s' ∧ -2000000000000 ≤ v ∧ v ≤ 2000000000000 := by
  unfold spec_l01DrawValue.f
  obtain ⟨v1, t1, s1, e1, h1, b1, _⟩ := next_eq h 10 (by omega)
  rw [e1]; simp only [Option.bind_some]
  by_cases c : v1 = 0
  · obtain ⟨v2, t2, s2, e2, h2, m2⟩ := pick_eq h1 [0, 1000000000000, 1000000000001, (-1000000000000), (-1000000000001), 1] (by simp) (by simp)
    rw [if_pos c, e2]; simp only [Option.bind_some]
    refine ⟨v2, t2, s2, rfl, h2, ?_⟩
    simp only [List.mem_cons, List.not_mem_nil, or_false] at m2; omega
  · obtain ⟨v2, t2, s2, e2, h2, b2, c2⟩ := next_eq h1 41 (by omega)
    obtain ⟨v3, t3, s3, e3, h3, b3, c3⟩ := next_eq h2 2001 (by omega)
    obtain ⟨v4, t4, s4, e4, h4, b4, c4⟩ := next_eq h3 2000000001 (by omega)
    rw [if_neg c, e2]; simp only [Option.bind_some]
    rw [e3]; simp only [Option.bind_some]
    rw [e4]; simp only [Option.bind_some]
    rw [wid (v2 - 20) (by omega) (by omega), wid (v3 - 1000) (by omega) (by omega), wid (v4 - 1000000000) (by omega) (by omega)]
    obtain ⟨v5, t5, s5, e5, h5, m5⟩ := pick_eq h4 [v2 - 20, v3 - 1000, v4 - 1000000000] (by simp) (by simp)
    rw [e5]; simp only [Option.bind_some]
    refine ⟨v5, t5, s5, rfl, h5, ?_⟩
    simp only [List.mem_cons, List.not_mem_nil, or_false] at m5; omega

theorem l03Draw_eq {l : List Int} {t s : Int} (h : src l t s) : ∃ v t' s', spec_l03Draw.f l t s = some (v, t', s') ∧ src l t' s' ∧ -2000000000000 ≤ v ∧ v ≤ 2000000000000 := by
  unfold spec_l03Draw.f
  obtain ⟨v1, t1, s1, e1, h1, b1, _⟩ := next_eq h 12 (by omega)
  rw [e1]; simp only [Option.bind_some]
  by_cases c : v1 = 0
  · obtain ⟨v2, t2, s2, e2, h2, m2⟩ := pick_eq h1 [0, 648000, (-648000), 1296000, 324000, 1295999, 647999] (by simp) (by simp)
    rw [if_pos c, e2]; simp only [Option.bind_some]
    refine ⟨v2, t2, s2, rfl, h2, ?_⟩
    simp only [List.mem_cons, List.not_mem_nil, or_false] at m2; omega
  · rw [if_neg c]
    by_cases d : v1 = 1
    · obtain ⟨v2, t2, s2, e2, h2, m2⟩ := drawValue_eq h1
      rw [if_pos d, e2]; simp only [Option.bind_some]
      exact ⟨v2, t2, s2, rfl, h2, m2⟩
    · obtain ⟨v2, t2, s2, e2, h2, b2, c2⟩ := next_eq h1 1296000 (by omega)
      obtain ⟨v3, t3, s3, e3, h3, b3, c3⟩ := next_eq h2 3888000 (by omega)
      obtain ⟨v4, t4, s4, e4, h4, b4, c4⟩ := next_eq h3 721 (by omega)
      rw [if_neg d, e2]; simp only [Option.bind_some]
      rw [e3]; simp only [Option.bind_some]
      rw [e4]; simp only [Option.bind_some]
      rw [wid (v3 - 1296000) (by omega) (by omega), wid (v4 - 360) (by omega) (by omega), wid (3600 * (v4 - 360)) (by omega) (by omega)]
      obtain ⟨v5, t5, s5, e5, h5, m5⟩ := pick_eq h4 [v2, v3 - 1296000, 3600 * (v4 - 360)] (by simp) (by simp)
      rw [e5]; simp only [Option.bind_some]
      refine ⟨v5, t5, s5, rfl, h5, ?_⟩
      simp only [List.mem_cons, List.not_mem_nil, or_false] at m5; omega

/-- What the laws over a code take of it. -/
theorem code_bytes {l : List Int} (h : ∀ x ∈ l, (Lit.int .u8 x).wf = true) : ∀ x ∈ l, 0 ≤ x ∧ x ≤ 255 := by
  intro x hx
  have := h x hx
  simp [Lit.wf, IntKind.min, IntKind.max, IntKind.signed, IntKind.bits] at this
  omega

theorem big_eq (l : List Int) : laws_big.f l = some (decide ((l.length : Int) > 4096)) := rfl

theorem drawTurn_eq (l : List Int) (hl : l.length ≤ 4096) (hb : ∀ x ∈ l, 0 ≤ x ∧ x ≤ 255) : ∃ a b, ∀ k, 64 < k → spec_DrawTurnBetween.f k l = some (a, b) := by
  obtain ⟨s, hs, hf⟩ := from_eq l hl hb
  obtain ⟨v1, t1, s1, e1, h1, b1⟩ := l03Draw_eq hs
  obtain ⟨v2, t2, s2, e2, h2, b2⟩ := l03Draw_eq h1
  refine ⟨v1, v2, fun k hk => ?_⟩
  unfold spec_DrawTurnBetween.f
  rw [hf k hk]; simp only [Option.bind_some]
  rw [e1]; simp only [Option.bind_some]
  rw [e2]; rfl

theorem FnAngles : laws_FnAngles.Pure := by
  intro l _ _ hw
  have hb := code_bytes hw
  by_cases hl : l.length ≤ 4096
  · obtain ⟨a, b, hab⟩ := drawTurn_eq l hl hb
    refine ⟨70, ?_⟩
    unfold laws_FnAngles.f
    rw [big_eq, decide_eq_false (by omega)]; simp only [Option.bind_some]
    rw [if_neg (by decide), hab _ (by omega)]; simp only [Option.bind_some]
    rw [impl_TurnBetween_eq, spec_TurnBetween_eq, impl_PlainAngle_eq, spec_PlainAngle_eq, impl_SignedAngle_eq, spec_SignedAngle_eq, impl_MeanAngle_eq 69, spec_MeanAngle_eq 69]
    simp only [Option.bind_some, if_true, bne_self_eq_false]
    by_cases h : isB a b
    · rw [if_pos h, if_pos h.1, if_pos h.1, if_pos h]
      show laws_FnAngles.j0 (68 + 2) a b (sgn (b - a)) 0 (a % 1296000) 0 (sgn a) 0 ((a + sgn (b - a) / 2) % 1296000) false = some true
      have h' : isB b a := ⟨h.2, h.1⟩
      have hm : isB a ((a + sgn (b - a) / 2) % 1296000) := ⟨h.1, by omega⟩
      have r1 := sgn_range (b - a)
      simp only [laws_FnAngles.j0]
      rw [if_neg (by decide)]; simp only [if_true]
      rw [impl_TurnBetween_eq, if_pos h']; simp only [Option.bind_some, if_true, bne_self_eq_false]
      simp only [laws_FnAngles.j1]
      have ht : Int.tmod (wrap64 (a % 1296000 - sgn a)) 1296000 = 0 := by
        have := sgn_range a
        rw [wid _ (by omega) (by omega)]
        have e : (a % 1296000 - sgn a) % 1296000 = 0 := by unfold sgn; omega
        rw [(tdiv_pos_spec _ 1296000 (by omega)).1, if_pos (.inr e), e]
      have hf : sgn ((a + sgn (b - a) / 2) % 1296000 - a) = sgn (b - a) / 2 := by
        generalize sgn (b - a) = s at r1 ⊢
        unfold sgn; omega
      have hs : -648000 ≤ sgn a ∧ sgn a < 648000 := sgn_range a
      have hfirst : (if (wrap64 (2 * (sgn (b - a) / 2))) = sgn (b - a) then (some true) else (some ((wrap64 (2 * (sgn (b - a) / 2))) == (wrap64 (sgn (b - a) - 1))))) = some true := by
        rw [wid (2 * (sgn (b - a) / 2)) (by omega) (by omega), wid (sgn (b - a) - 1) (by omega) (by omega)]
        by_cases c : 2 * (sgn (b - a) / 2) = sgn (b - a)
        · rw [if_pos c]
        · rw [if_neg c, beq_iff_eq.2 (by omega)]
      rw [if_neg (by decide), impl_TurnBetween_eq, if_pos hm, hf]; simp only [Option.bind_some]
      rw [ht, if_pos (show a % 1296000 ≥ 0 by omega), if_pos (show a % 1296000 < 1296000 by omega), if_pos (show sgn a ≥ -648000 from hs.1), if_pos hs.2]
      simp only [if_true]
      rw [hfirst]
      by_cases c : sgn (b - a) = -648000
      · rw [if_pos c, if_pos (by unfold sgn at c ⊢; omega)]
      · rw [if_neg c, wid (-sgn (b - a)) (by omega) (by omega), if_pos (by unfold sgn at c ⊢; omega)]
    · rw [if_neg h]
      show laws_FnAngles.j0 (69 + 1) a b 0 2 _ _ _ _ _ false = some true
      simp only [laws_FnAngles.j0]
      rw [if_neg (by decide), if_neg (by decide)]
  · refine ⟨1, ?_⟩
    unfold laws_FnAngles.f
    rw [big_eq, decide_eq_true (by omega)]; rfl

end Go.Proofs.Ytcnaocjhfgnphaa.Pure
