/- Proved: for every code the law FnRoots returns true. Conditions: none. -/
import Derived.Test.YtcnaocjhfgnphaaQFnRootsx3
namespace Go.Proofs.Ytcnaocjhfgnphaa.Pure
open Go.RowKit Go.Proofs.Ytcnaocjhfgnphaa.PFnRoots Go.Proofs.YtcnaocjhfgnphaaW.PrintWords Go.Proofs.YtcnaocjhfgnphaaW.PrintLast Go.Proofs.YtcnaocjhfgnphaaW.PrintMore
set_option linter.unusedVariables false
set_option linter.unusedSimpArgs false

theorem wid (n : Int) (h0 : -9223372036854775808 ≤ n) (h1 : n ≤ 9223372036854775807) : wrap64 n = n := by unfold wrap64; omega

theorem tmodP (a b : Int) (h : 0 ≤ a) : a.tmod b = a % b := Int.tmod_eq_emod_of_nonneg h

theorem tdivP (a b : Int) (h : 0 ≤ a) : a.tdiv b = a / b := Int.tdiv_eq_ediv_of_nonneg h

theorem ediv_bounds (a b : Int) (hb : 0 < b) : b * (a / b) + a % b = a ∧ 0 ≤ a % b ∧ a % b < b := ⟨Int.mul_ediv_add_emod a b, Int.emod_nonneg _ (by omega), Int.emod_lt_of_pos _ hb⟩

/-- Go's truncated quotient and remainder by a positive number, in Lean's floor form. -/
theorem tdiv_pos_spec (a b : Int) (hb : 0 < b) : a.tmod b = (if 0 ≤ a ∨ a % b = 0 then a % b else a % b - b) ∧ a.tdiv b = (if 0 ≤ a ∨ a % b = 0 then a / b else a / b + 1) := by
  have h1 : a.tdiv b = (if 0 ≤ a ∨ a % b = 0 then a / b else a / b + 1) := by
    rw [Int.tdiv_eq_ediv]
    have e : b.sign = 1 := Int.sign_eq_one_of_pos hb
    rw [e]
    have : (b ∣ a) ↔ a % b = 0 := Int.dvd_iff_emod_eq_zero
    by_cases h : 0 ≤ a ∨ a % b = 0
    · rw [if_pos h, if_pos (by rw [this]; exact h)]; omega
    · rw [if_neg h, if_neg (by rw [this]; exact h)]
  refine ⟨?_, h1⟩
  have h2 := Int.mul_tdiv_add_tmod a b
  have h3 := Int.mul_ediv_add_emod a b
  rw [h1] at h2
  by_cases h : 0 ≤ a ∨ a % b = 0
  · rw [if_pos h] at h2 ⊢; omega
  · rw [if_neg h] at h2 ⊢; rw [Int.mul_add] at h2; omega

theorem ediv_range (a b : Int) (hb : 0 < b) (A : Int) (h0 : -A ≤ a) (h1 : a ≤ A) (hA : 0 ≤ A) : -A ≤ a / b ∧ a / b ≤ A := by
  constructor
  · rw [Int.le_ediv_iff_mul_le hb]
    have : -A * b ≤ -A * 1 := by
      have : A * 1 ≤ A * b := Int.mul_le_mul_of_nonneg_left (by omega) hA
      rw [Int.neg_mul, Int.neg_mul]; omega
    omega
  · have : a / b ≤ A / b := Int.ediv_le_ediv hb h1
    have h2 : A / b ≤ A := Int.ediv_le_self _ hA
    omega

theorem impl_in_eq (n lo hi : Int) : impl_in.f n lo hi = some (decide (lo ≤ n ∧ n ≤ hi)) := by
  unfold impl_in.f; by_cases h : n ≥ lo
  · rw [if_pos h]; simp [show lo ≤ n from h]
  · rw [if_neg h]; simp [show ¬ lo ≤ n from h]

theorem spec_in_eq (n lo hi : Int) : spec_l01In.f n lo hi = some (decide (lo ≤ n ∧ n ≤ hi)) := by
  unfold spec_l01In.f; by_cases h : n ≥ lo
  · rw [if_pos h]; simp [show lo ≤ n from h]
  · rw [if_neg h]; simp [show ¬ lo ≤ n from h]

theorem impl_floor_pos (a b : Int) (hb : 0 < b) (h0 : -9223372036854775807 ≤ a) (h1 : a ≤ 9223372036854775807) : impl_floor.f a b = some (a / b) := by
  have hr := ediv_range a b hb 9223372036854775807 h0 h1 (by omega)
  obtain ⟨e1, e2⟩ := tdiv_pos_spec a b hb
  have hm := Int.emod_nonneg a (show b ≠ 0 by omega)
  have hm2 := Int.emod_lt_of_pos a hb
  unfold impl_floor.f
  rw [if_neg (by omega), e1, e2]
  by_cases h : 0 ≤ a ∨ a % b = 0
  · rw [if_pos h, if_pos h, wid _ (by omega) (by omega)]
    by_cases hz : a % b = 0
    · rw [if_pos hz]
    · rw [if_neg hz, if_neg]
      have : ¬ (a % b < 0) := by omega
      have : ¬ (b < 0) := by omega
      simp [*]
  · rw [if_neg h, if_neg h, if_neg (by omega), if_pos]
    · have : a / b + 1 ≤ 0 := by
        have := Int.ediv_neg_of_neg_of_pos (show a < 0 by omega) hb
        omega
      rw [wid (a / b + 1) (by omega) (by omega), wid _ (by omega) (by omega)]; congr 1; omega
    · have : (a % b - b < 0) := by omega
      have : ¬ (b < 0) := by omega
      simp [*]

theorem spec_floor_pos (a b : Int) (hb : 0 < b) (h0 : -9223372036854775807 ≤ a) (h1 : a ≤ 9223372036854775807) : spec_l01Floor.f a b = some (a / b) := by
  have hr := ediv_range a b hb 9223372036854775807 h0 h1 (by omega)
  obtain ⟨e1, e2⟩ := tdiv_pos_spec a b hb
  have hm := Int.emod_nonneg a (show b ≠ 0 by omega)
  have hm2 := Int.emod_lt_of_pos a hb
  unfold spec_l01Floor.f
  rw [if_neg (by omega), if_neg (by omega), e1, e2]
  by_cases h : 0 ≤ a ∨ a % b = 0
  · rw [if_pos h, if_pos h, if_neg (by omega), wid _ (by omega) (by omega)]
  · rw [if_neg h, if_neg h, if_pos (by omega)]
    have : a / b + 1 ≤ 0 := by
      have := Int.ediv_neg_of_neg_of_pos (show a < 0 by omega) hb
      omega
    rw [wid (a / b + 1) (by omega) (by omega), wid _ (by omega) (by omega)]; congr 1; omega

/-- The nearest integer to a fraction of a positive denominator; a half goes up. -/
def nrs (a b : Int) : Int := (2 * a + b) / (2 * b)

theorem nrs_eq (a b : Int) (hb : 0 < b) : nrs a b = if b ≤ 2 * (a % b) then a / b + 1 else a / b := by
  obtain ⟨e, m0, m1⟩ := ediv_bounds a b hb
  unfold nrs
  have h : 2 * a + b = (2 * (a % b) + b) + (2 * b) * (a / b) := by rw [Int.mul_assoc]; omega
  rw [h, Int.add_mul_ediv_left _ _ (by omega)]
  by_cases k : b ≤ 2 * (a % b)
  · rw [if_pos k]
    have : (2 * (a % b) + b) / (2 * b) = 1 := by
      rw [show 2 * (a % b) + b = (2 * (a % b) - b) + 2 * b * 1 by omega, Int.add_mul_ediv_left _ _ (by omega), Int.ediv_eq_zero_of_lt (by omega) (by omega)]; rfl
    omega
  · rw [if_neg k, Int.ediv_eq_zero_of_lt (by omega) (by omega)]; omega

theorem nrs_range (a b : Int) (hb : 0 < b) (A : Int) (h0 : -A ≤ a) (h1 : a ≤ A) (hA : 0 ≤ A) : -A ≤ nrs a b ∧ nrs a b ≤ A + 1 := by
  rw [nrs_eq a b hb]
  have := ediv_range a b hb A h0 h1 hA
  by_cases k : b ≤ 2 * (a % b)
  · rw [if_pos k]; omega
  · rw [if_neg k]; omega

theorem impl_nearest_pos (a b : Int) (hb : 0 < b) (hb1 : b ≤ 1000000000000000000) (h0 : -4000000000000000000 ≤ a) (h1 : a ≤ 4000000000000000000) : impl_nearest.f a b = some (nrs a b) := by
  obtain ⟨e, m0, m1⟩ := ediv_bounds a b hb
  have hr := ediv_range a b hb 4000000000000000000 h0 h1 (by omega)
  have e2 : a / b * b = a - a % b := by rw [Int.mul_comm]; omega
  rw [nrs_eq a b hb]
  unfold impl_nearest.f
  rw [if_neg (by omega), impl_floor_pos a b hb (by omega) (by omega)]
  simp only [Option.bind_some]
  rw [e2, wid (a - a % b) (by omega) (by omega), show a - (a - a % b) = a % b by omega, wid (a % b) (by omega) (by omega), wid (b - a % b) (by omega) (by omega), wid (a / b + 1) (by omega) (by omega)]
  by_cases k : b ≤ 2 * (a % b)
  · rw [if_pos k, if_pos (by omega)]
  · rw [if_neg k, if_neg (by omega)]

theorem spec_nearest_pos (a b : Int) (hb : 0 < b) (hb1 : b ≤ 1000000000000000000) (h0 : -4000000000000000000 ≤ a) (h1 : a ≤ 4000000000000000000) : spec_l01Nearest.f a b = some (nrs a b) := by
  unfold spec_l01Nearest.f nrs
  rw [wid (2 * a) (by omega) (by omega), wid (2 * b) (by omega) (by omega), wid (2 * a + b) (by omega) (by omega), spec_floor_pos _ _ (by omega) (by omega) (by omega)]; rfl

/-- Where a mix is defined. -/
abbrev mixOk (a b k n : Int) : Prop := (((-1000000000 ≤ a ∧ a ≤ 1000000000) ∧ (-1000000000 ≤ b ∧ b ≤ 1000000000)) ∧ (1 ≤ n ∧ n ≤ 10000000)) ∧ (0 ≤ k ∧ k ≤ n)

theorem mul_range (x y X Y : Int) (h0 : -X ≤ x) (h1 : x ≤ X) (hy : 0 ≤ y) (hy1 : y ≤ Y) : -(X * Y) ≤ x * y ∧ x * y ≤ X * Y := by
  have hX : 0 ≤ X := by omega
  have k1 : x * y ≤ X * y := Int.mul_le_mul_of_nonneg_right h1 hy
  have k2 : X * y ≤ X * Y := Int.mul_le_mul_of_nonneg_left hy1 hX
  have k3 : (-X) * y ≤ x * y := Int.mul_le_mul_of_nonneg_right h0 hy
  rw [Int.neg_mul] at k3
  omega

theorem bind_dec {α : Type} (p : Prop) [Decidable p] (A : Option α) (B : α) : ((some (decide p)).bind fun t => if t = true then A else some B) = if p then A else some B := by
  by_cases h : p <;> simp [h]

theorem ite_and {α : Type} (p q : Prop) [Decidable p] [Decidable q] (A B : α) : (if p then (if q then A else B) else B) = if p ∧ q then A else B := by
  by_cases h : p <;> by_cases h2 : q <;> simp [h, h2]

theorem spec_MixOf_eq (a b k n : Int) : spec_MixOf.f a b k n = some (if mixOk a b k n then (a + nrs ((b - a) * k) n, 0) else (0, 2)) := by
  unfold spec_MixOf.f
  rw [spec_in_eq, spec_in_eq, spec_in_eq, spec_in_eq, bind_dec, bind_dec, bind_dec, bind_dec, ite_and, ite_and, ite_and]
  by_cases h : mixOk a b k n
  · rw [if_pos h, if_pos h]
    obtain ⟨⟨⟨h1, h2⟩, h3⟩, h4⟩ := h
    have hm := mul_range (b - a) k 2000000000 10000000 (by omega) (by omega) (by omega) (by omega)
    have hn := nrs_range ((b - a) * k) n (by omega) 20000000000000000 (by omega) (by omega) (by omega)
    unfold spec_l01Mix.f
    rw [wid (b - a) (by omega) (by omega), wid ((b - a) * k) (by omega) (by omega), spec_nearest_pos _ _ (by omega) (by omega) (by omega) (by omega)]
    simp only [Option.bind_some]
    rw [wid _ (by omega) (by omega)]
  · rw [if_neg h, if_neg h]

theorem impl_MixOf_eq (a b k n : Int) : impl_MixOf.f a b k n = some (if mixOk a b k n then (a + nrs ((b - a) * k) n, 0) else (0, 2)) := by
  unfold impl_MixOf.f
  rw [impl_in_eq, impl_in_eq, impl_in_eq, impl_in_eq, bind_dec, bind_dec, bind_dec, bind_dec, ite_and, ite_and, ite_and]
  by_cases h : mixOk a b k n
  · rw [if_pos h, if_pos h]
    obtain ⟨⟨⟨h1, h2⟩, h3⟩, h4⟩ := h
    have hm := mul_range (b - a) k 2000000000 10000000 (by omega) (by omega) (by omega) (by omega)
    have hn := nrs_range ((b - a) * k) n (by omega) 20000000000000000 (by omega) (by omega) (by omega)
    rw [wid (b - a) (by omega) (by omega), wid ((b - a) * k) (by omega) (by omega), impl_nearest_pos _ _ (by omega) (by omega) (by omega) (by omega)]
    simp only [Option.bind_some]
    rw [wid _ (by omega) (by omega)]
  · rw [if_neg h, if_neg h]

theorem tdiv2 (a : Int) (h : 0 ≤ a) : Int.tdiv a 2 = a / 2 := tdivP a 2 h

/-- Halving for a square root: both programs' loops tell the same root. -/
theorem root_loop (n : Int) (hn : 0 ≤ n) (hn1 : n ≤ 4000000000000000000) : ∀ (d : Nat) (lo hi : Int), 0 ≤ lo → lo < hi → hi ≤ 2000000001 → hi - lo ≤ d → lo * lo ≤ n → n < hi * hi →
    ∃ r, 0 ≤ r ∧ r ≤ 2000000000 ∧ r * r ≤ n ∧ n < (r + 1) * (r + 1) ∧ ∀ k, d < k → impl_root.l0 k n lo hi = some r ∧ spec_l01Root.l0 k n lo hi = some r := by
  intro d
  induction d with
  | zero => intro lo hi h0 h1 h2 h3; omega
  | succ d ih =>
    intro lo hi h0 h1 h2 h3 h4 h5
    by_cases h : hi - lo > 1
    · have hmid : lo < (lo + hi) / 2 ∧ (lo + hi) / 2 < hi := by omega
      have hsq : 0 ≤ (lo + hi) / 2 * ((lo + hi) / 2) ∧ (lo + hi) / 2 * ((lo + hi) / 2) ≤ 4000000000000000000 := by
        have := mul_range ((lo + hi) / 2) ((lo + hi) / 2) 2000000000 2000000000 (by omega) (by omega) (by omega) (by omega)
        have := Int.mul_nonneg (show 0 ≤ (lo + hi) / 2 by omega) (show 0 ≤ (lo + hi) / 2 by omega)
        omega
      by_cases c : (lo + hi) / 2 * ((lo + hi) / 2) ≤ n
      · obtain ⟨r, r0, r1, r2, r3, hr⟩ := ih ((lo + hi) / 2) hi (by omega) (by omega) h2 (by omega) c h5
        refine ⟨r, r0, r1, r2, r3, fun k hk => ?_⟩
        obtain ⟨k, rfl⟩ : ∃ m, k = m + 1 := ⟨k - 1, by omega⟩
        simp only [impl_root.l0, spec_l01Root.l0]
        rw [wid (hi - lo) (by omega) (by omega), if_pos h, if_pos h, wid (lo + hi) (by omega) (by omega), tdiv2 _ (by omega), wid ((lo + hi) / 2) (by omega) (by omega), wid (_ * _) (by omega) (by omega), if_pos c, if_pos c]
        exact hr k (by omega)
      · obtain ⟨r, r0, r1, r2, r3, hr⟩ := ih lo ((lo + hi) / 2) (by omega) (by omega) (by omega) (by omega) h4 (by omega)
        refine ⟨r, r0, r1, r2, r3, fun k hk => ?_⟩
        obtain ⟨k, rfl⟩ : ∃ m, k = m + 1 := ⟨k - 1, by omega⟩
        simp only [impl_root.l0, spec_l01Root.l0]
        rw [wid (hi - lo) (by omega) (by omega), if_pos h, if_pos h, wid (lo + hi) (by omega) (by omega), tdiv2 _ (by omega), wid ((lo + hi) / 2) (by omega) (by omega), wid (_ * _) (by omega) (by omega), if_neg c, if_neg c]
        exact hr k (by omega)
    · obtain rfl : hi = lo + 1 := by omega
      refine ⟨lo, h0, by omega, h4, h5, fun k hk => ?_⟩
      obtain ⟨k, rfl⟩ : ∃ m, k = m + 1 := ⟨k - 1, by omega⟩
      simp only [impl_root.l0, spec_l01Root.l0]
      rw [wid (lo + 1 - lo) (by omega) (by omega), if_neg (by omega), if_neg (by omega)]
      exact ⟨rfl, rfl⟩

theorem root_both (n : Int) (hn : 0 ≤ n) (hn1 : n ≤ 4000000000000000000) : ∃ r, 0 ≤ r ∧ r ≤ 2000000000 ∧ r * r ≤ n ∧ n < (r + 1) * (r + 1) ∧ ∀ k, 2000000001 < k → impl_root.f k n = some r ∧ spec_l01Root.f k n = some r := by
  obtain ⟨r, r0, r1, r2, r3, hr⟩ := root_loop n hn hn1 2000000001 0 2000000001 (by omega) (by omega) (by omega) (by omega) (by omega) (by omega)
  exact ⟨r, r0, r1, r2, r3, hr⟩

/-- A source of draws over the code l: how many of its bytes are used, and its seed. -/
def src (l : List Int) (t s : Int) : Prop := (0 ≤ t ∧ t ≤ (l.length : Int)) ∧ (l.length ≤ 4096 ∧ ∀ x ∈ l, 0 ≤ x ∧ x ≤ 255) ∧ (0 ≤ s ∧ s < 2147483647)

theorem rd_byte (l : List Int) (h : ∀ x ∈ l, 0 ≤ x ∧ x ≤ 255) (i : Int) : 0 ≤ rd l i ∧ rd l i ≤ 255 := by
  unfold rd
  by_cases c : i.toNat < l.length
  · rw [List.getD_eq_getElem?_getD, List.getElem?_eq_getElem c]; exact h _ (List.getElem_mem c)
  · rw [List.getD_eq_getElem?_getD, List.getElem?_eq_none (by omega)]; simp

theorem from_loop (l : List Int) (hl : l.length ≤ 4096) (hb : ∀ x ∈ l, 0 ≤ x ∧ x ≤ 255) : ∀ (d : Nat) (i s : Int), 0 ≤ i → 64 - i ≤ d → 0 ≤ s → s < 2147483647 →
    ∃ s', (0 ≤ s' ∧ s' < 2147483647) ∧ ∀ k, d < k → spec_l01From.l0 k l i l 0 s = some (l, 0, s') := by
  intro d
  induction d with
  | zero =>
    intro i s h0 h1 h2 h3
    refine ⟨s, ⟨h2, h3⟩, fun k hk => ?_⟩
    obtain ⟨k, rfl⟩ : ∃ z, k = z + 1 := ⟨k - 1, by omega⟩
    simp only [spec_l01From.l0]
    by_cases c : i < (l.length : Int)
    · rw [if_pos c, if_neg (by omega)]
    · rw [if_neg c]
  | succ d ih =>
    intro i s h0 h1 h2 h3
    by_cases c : i < (l.length : Int)
    · by_cases c2 : i < 64
      · have hr := rd_byte l hb i
        have e1 : wrap64 (s * 71) = s * 71 := wid _ (by omega) (by omega)
        have e2 : wrap64 (rd l i) = rd l i := wid _ (by omega) (by omega)
        have e3 : wrap64 (s * 71 + rd l i) = s * 71 + rd l i := wid _ (by omega) (by omega)
        have e4 : Int.tmod (s * 71 + rd l i) 2147483647 = (s * 71 + rd l i) % 2147483647 := tmodP _ _ (by omega)
        obtain ⟨s', hs, hk⟩ := ih (i + 1) ((s * 71 + rd l i) % 2147483647) (by omega) (by omega) (by omega) (by omega)
        refine ⟨s', hs, fun k hk' => ?_⟩
        obtain ⟨k, rfl⟩ : ∃ z, k = z + 1 := ⟨k - 1, by omega⟩
        simp only [spec_l01From.l0]
        rw [if_pos c, if_pos c2, if_pos h0, e1, e2, e3, e4, wid (i + 1) (by omega) (by omega)]
        exact hk k (by omega)
      · refine ⟨s, ⟨h2, h3⟩, fun k hk => ?_⟩
        obtain ⟨k, rfl⟩ : ∃ z, k = z + 1 := ⟨k - 1, by omega⟩
        simp only [spec_l01From.l0]; rw [if_pos c, if_neg c2]
    · refine ⟨s, ⟨h2, h3⟩, fun k hk => ?_⟩
      obtain ⟨k, rfl⟩ : ∃ z, k = z + 1 := ⟨k - 1, by omega⟩
      simp only [spec_l01From.l0]; rw [if_neg c]

theorem from_eq (l : List Int) (hl : l.length ≤ 4096) (hb : ∀ x ∈ l, 0 ≤ x ∧ x ≤ 255) : ∃ s, src l 0 s ∧ ∀ k, 64 < k → spec_l01From.f k l = some (l, 0, s) := by
  obtain ⟨s, hs, hk⟩ := from_loop l hl hb 64 0 21013 (by omega) (by omega) (by omega) (by omega)
  exact ⟨s, ⟨⟨by omega, by omega⟩, ⟨hl, hb⟩, hs⟩, hk⟩

theorem next_eq {l : List Int} {t s : Int} (h : src l t s) (n : Int) (hn : n ≤ 1000000000000000000) : ∃ v t' s', spec_l01Next.f l t s n = some (v, t', s') ∧ src l t' s' ∧ 0 ≤ v ∧ (v < n ∨ v = 0 ∧ n ≤ 1) := by
  obtain ⟨⟨t0, t1⟩, ⟨l0, l1⟩, s0, s1⟩ := h
  unfold spec_l01Next.f
  by_cases c : n ≤ 1
  · rw [if_pos c]; exact ⟨0, t, s, rfl, ⟨⟨t0, t1⟩, ⟨l0, l1⟩, s0, s1⟩, by omega, .inr ⟨rfl, c⟩⟩
  · have e1 : wrap64 (s * 48271) = s * 48271 := wid _ (by omega) (by omega)
    have e2 : wrap64 (s * 48271 + 29) = s * 48271 + 29 := wid _ (by omega) (by omega)
    have e3 : Int.tmod (s * 48271 + 29) 2147483647 = (s * 48271 + 29) % 2147483647 := tmodP _ _ (by omega)
    rw [if_neg c, e1, e2, e3]
    generalize hq : (s * 48271 + 29) % 2147483647 = q
    have q0 : 0 ≤ q ∧ q < 2147483647 := by omega
    have e4 : wrap64 (Int.tdiv q 31) = q / 31 := by rw [tdivP _ _ q0.1]; exact wid _ (by omega) (by omega)
    have n0 : ¬ n = 0 := by omega
    rw [e4]
    have hm : ∀ x : Int, 0 ≤ x → 0 ≤ Int.tmod x n ∧ Int.tmod x n < n := by
      intro x hx
      rw [tmodP _ _ hx]; exact ⟨Int.emod_nonneg _ (by omega), Int.emod_lt_of_pos _ (by omega)⟩
    by_cases c1 : t < (l.length : Int)
    · have hr := rd_byte l l1 t
      have e5 : wrap64 (t + 1) = t + 1 := wid _ (by omega) (by omega)
      have e6 : wrap64 (rd l t) = rd l t := wid _ (by omega) (by omega)
      have e7 : wrap64 (q / 31 + rd l t) = q / 31 + rd l t := wid _ (by omega) (by omega)
      have e8 : wrap64 (t + 1 - 1) = t := by rw [show t + 1 - 1 = t by omega]; exact wid _ (by omega) (by omega)
      rw [if_pos c1, if_pos t0, e5, e8, e6, e7, if_neg n0, if_neg n0, if_pos t0, if_pos c1]
      have hs' : src l (t + 1) q := ⟨⟨by omega, by omega⟩, ⟨l0, l1⟩, q0.1, q0.2⟩
      have a1 := hm (rd l t) hr.1
      have a2 := hm (q / 31 + rd l t) (by omega)
      by_cases c2 : n ≤ 256
      · rw [if_pos c2]
        by_cases c3 : Int.tmod (t + 1) 2 = 0
        · rw [if_pos c3]; exact ⟨_, _, _, rfl, hs', a1.1, .inl a1.2⟩
        · rw [if_neg c3]; exact ⟨_, _, _, rfl, hs', a2.1, .inl a2.2⟩
      · rw [if_neg c2]; exact ⟨_, _, _, rfl, hs', a2.1, .inl a2.2⟩
    · have a3 := hm (q / 31) (by omega)
      rw [if_neg c1, if_neg n0]; exact ⟨_, _, _, rfl, ⟨⟨t0, t1⟩, ⟨l0, l1⟩, q0.1, q0.2⟩, a3.1, .inl a3.2⟩

theorem pick_eq {l : List Int} {t s : Int} (h : src l t s) (xs : List Int) (h1 : 0 < xs.length) (h2 : xs.length ≤ 100) : ∃ v t' s', spec_l01Pick.f l t s xs = some (v, t', s') ∧ src l t' s' ∧ v ∈ xs := by
  obtain ⟨v, t', s', e, hs, v0, v1⟩ := next_eq h (xs.length : Int) (by omega)
  unfold spec_l01Pick.f
  rw [e]; simp only [Option.bind_some]
  have hv : v < (xs.length : Int) := by omega
  rw [if_pos v0, if_pos hv]
  refine ⟨_, _, _, rfl, hs, ?_⟩
  unfold rd
  have hlt : v.toNat < xs.length := by omega
  rw [List.getD_eq_getElem?_getD, List.getElem?_eq_getElem hlt]; exact List.getElem_mem hlt

/-- What the laws over a code take of it. -/
theorem code_bytes {l : List Int} (h : ∀ x ∈ l, (Lit.int .u8 x).wf = true) : ∀ x ∈ l, 0 ≤ x ∧ x ≤ 255 := by
  intro x hx
  have := h x hx
  simp [Lit.wf, IntKind.min, IntKind.max, IntKind.signed, IntKind.bits] at this
  omega

theorem big_eq (l : List Int) : laws_big.f l = some (decide ((l.length : Int) > 4096)) := rfl

theorem drawRoot_eq (l : List Int) (hl : l.length ≤ 4096) (hb : ∀ x ∈ l, 0 ≤ x ∧ x ≤ 255) : ∃ n, ∀ k, 64 < k → spec_DrawRootOf.f k l = some n := by
  obtain ⟨s, hs, hf⟩ := from_eq l hl hb
  obtain ⟨v1, t1, s1, e1, h1, b1, _⟩ := next_eq hs 4 (by omega)
  by_cases c : v1 = 0
  · obtain ⟨v2, t2, s2, e2, h2, m2⟩ := pick_eq h1 [0, 1, 2, 4000000000000000000, 4000000000000000001, (-1), 3999999996000000001] (by simp) (by simp)
    refine ⟨v2, fun k hk => ?_⟩
    unfold spec_DrawRootOf.f
    rw [hf k hk]; simp only [Option.bind_some]
    rw [e1]; simp only [Option.bind_some]
    rw [if_pos c, e2]; rfl
  · obtain ⟨v2, t2, s2, e2, h2, b2, c2⟩ := next_eq h1 2000000000 (by omega)
    obtain ⟨v3, t3, s3, e3, h3, b3, c3⟩ := next_eq h2 1000 (by omega)
    obtain ⟨v4, t4, s4, e4, h4, m4⟩ := pick_eq h3 [wrap64 (v2 * v2), wrap64 ((wrap64 (v2 * v2)) + 1), v3, mx 0 (wrap64 ((wrap64 (v2 * v2)) - 1))] (by simp) (by simp)
    refine ⟨v4, fun k hk => ?_⟩
    unfold spec_DrawRootOf.f
    rw [hf k hk]; simp only [Option.bind_some]
    rw [e1]; simp only [Option.bind_some]
    rw [if_neg c, e2]; simp only [Option.bind_some]
    rw [e3]; simp only [Option.bind_some]
    rw [e4]; rfl

theorem drawMix_eq (l : List Int) (hl : l.length ≤ 4096) (hb : ∀ x ∈ l, 0 ≤ x ∧ x ≤ 255) : ∃ a b q n, ∀ k, 64 < k → spec_DrawMixOf.f k l = some (a, b, q, n) := by
  obtain ⟨s, hs, hf⟩ := from_eq l hl hb
  obtain ⟨v1, t1, s1, e1, h1, b1, c1⟩ := next_eq hs 1000 (by omega)
  obtain ⟨v2, t2, s2, e2, h2, m2⟩ := pick_eq h1 [1, 2, 3, 10, wrap64 (1 + v1), 10000000, 10000001, 0] (by simp) (by simp)
  obtain ⟨v3, t3, s3, e3, h3, b3, c3⟩ := next_eq h2 2001 (by omega)
  obtain ⟨v4, t4, s4, e4, h4, m4⟩ := pick_eq h3 [wrap64 (v3 - 1000), 1000000000, (-1000000000), 1000000001] (by simp) (by simp)
  obtain ⟨v5, t5, s5, e5, h5, b5, c5⟩ := next_eq h4 2001 (by omega)
  obtain ⟨v6, t6, s6, e6, h6, m6⟩ := pick_eq h5 [wrap64 (v5 - 1000), 1000000000, (-1000000000), (-1000000001)] (by simp) (by simp)
  have hn : wrap64 (v2 + 1) ≤ 1000000000000000000 := by
    have : wrap64 (1 + v1) = 1 + v1 := wid _ (by omega) (by omega)
    rw [this] at m2
    simp only [List.mem_cons, List.not_mem_nil, or_false] at m2
    rw [wid _ (by omega) (by omega)]; omega
  obtain ⟨v7, t7, s7, e7, h7, b7, c7⟩ := next_eq h6 (wrap64 (v2 + 1)) hn
  obtain ⟨v8, t8, s8, e8, h8, b8, c8⟩ := next_eq h7 20 (by omega)
  obtain ⟨v9, t9, s9, e9, h9, b9, c9⟩ := next_eq h8 20 (by omega)
  refine ⟨v4, v6, wrap64 ((wrap64 (v7 + (wrap64 (Int.tdiv v8 19)))) - (wrap64 (Int.tdiv v9 19))), v2, fun k hk => ?_⟩
  unfold spec_DrawMixOf.f
  rw [hf k hk]; simp only [Option.bind_some]
  rw [e1]; simp only [Option.bind_some]
  rw [e2]; simp only [Option.bind_some]
  rw [e3]; simp only [Option.bind_some]
  rw [e4]; simp only [Option.bind_some]
  rw [e5]; simp only [Option.bind_some]
  rw [e6]; simp only [Option.bind_some]
  rw [e7]; simp only [Option.bind_some]
  rw [e8]; simp only [Option.bind_some]
  rw [e9]; rfl

theorem mix_between (a b k n : Int) (h : mixOk a b k n) : mn a b ≤ a + nrs ((b - a) * k) n ∧ a + nrs ((b - a) * k) n ≤ mx a b ∧ (k = 0 → a + nrs ((b - a) * k) n = a) ∧ (k = n → a + nrs ((b - a) * k) n = b) := by
  obtain ⟨⟨⟨h1, h2⟩, h3⟩, h4⟩ := h
  have lo : ∀ d e : Int, 0 ≤ d → d * k ≤ e → e ≤ d * n → (0 ≤ nrs (d * k) n ∧ nrs (d * k) n ≤ d) := by
    intro d e hd he he2
    unfold nrs
    have p1 : 0 ≤ d * k := Int.mul_nonneg hd h4.1
    constructor
    · exact Int.ediv_nonneg (by omega) (by omega)
    · have : 2 * (d * k) + n < (d + 1) * (2 * n) := by
        have : (d + 1) * (2 * n) = 2 * (d * n) + 2 * n := by rw [Int.add_mul, Int.mul_left_comm]; omega
        omega
      have := Int.ediv_lt_of_lt_mul (show 0 < 2 * n by omega) this
      omega
  have kn : nrs ((b - a) * 0) n = 0 := by
    rw [Int.mul_zero]; unfold nrs
    exact Int.ediv_eq_zero_of_lt (by omega) (by omega)
  have nn : nrs ((b - a) * n) n = b - a := by
    rw [nrs_eq _ _ (by omega), Int.mul_emod_left, if_neg (by omega), Int.mul_ediv_cancel _ (by omega)]
  refine ⟨?_, ?_, fun e => by rw [e, kn]; omega, fun e => by rw [e, nn]; omega⟩
  all_goals
    by_cases hab : a ≤ b
    · have m1 : (b - a) * k ≤ (b - a) * n := Int.mul_le_mul_of_nonneg_left h4.2 (by omega)
      have := lo (b - a) ((b - a) * k) (by omega) (by omega) m1
      (try unfold mn); (try unfold mx); split <;> omega
    · have m1 : (a - b) * k ≤ (a - b) * n := Int.mul_le_mul_of_nonneg_left h4.2 (by omega)
      have hm0 : 0 ≤ (a - b) * k := Int.mul_nonneg (by omega) h4.1
      have e : (b - a) * k = -((a - b) * k) := by rw [← Int.neg_mul]; congr 1; omega
      have q : -(a - b) ≤ nrs ((b - a) * k) n ∧ nrs ((b - a) * k) n ≤ 0 := by
        rw [e]; unfold nrs
        constructor
        · rw [Int.le_ediv_iff_mul_le (by omega)]
          have : -(a - b) * (2 * n) = -(2 * ((a - b) * n)) := by rw [Int.neg_mul, Int.mul_left_comm]
          omega
        · have : 2 * -((a - b) * k) + n < (0 + 1) * (2 * n) := by omega
          have := Int.ediv_lt_of_lt_mul (show 0 < 2 * n by omega) this
          omega
      (try unfold mn); (try unfold mx); split <;> omega
theorem FnRoots : laws_FnRoots.Pure := by
  intro l _ _ hw
  have hb := code_bytes hw
  by_cases hl : l.length ≤ 4096
  · obtain ⟨n, hn⟩ := drawRoot_eq l hl hb
    obtain ⟨a, b, q, m, hm⟩ := drawMix_eq l hl hb
    have key : ∀ (r c : Int), (c = 0 → r * r ≤ n ∧ n < (r + 1) * (r + 1) ∧ 0 ≤ r ∧ r ≤ 2000000000) → ∀ x y, (x, y) = (if mixOk a b q m then (a + nrs ((b - a) * q) m, 0) else (0, 2)) → laws_FnRoots.j0 2000000002 n r c a b q m x y false = some true := by
      intro r c hc x y hxy
      have hmix : y = 0 → mn a b ≤ x ∧ x ≤ mx a b ∧ (q = 0 → x = a) ∧ (q = m → x = b) := by
        intro y0
        by_cases ok : mixOk a b q m
        · rw [if_pos ok] at hxy; simp only [Prod.mk.injEq] at hxy; rw [hxy.1]; exact mix_between a b q m ok
        · rw [if_neg ok] at hxy; simp only [Prod.mk.injEq] at hxy; omega
      have hend : (if c = 0 then (if (wrap64 (r * r)) ≤ n then (some (decide ((wrap64 ((wrap64 (r + 1)) * (wrap64 (r + 1)))) > n))) else (some false)) else (some true)) = some true := by
        by_cases c0 : c = 0
        · obtain ⟨k1, k2, k3, k4⟩ := hc c0
          have u1 := mul_range r r 2000000000 2000000000 (by omega) k4 k3 k4
          have u2 := mul_range (r + 1) (r + 1) 2000000001 2000000001 (by omega) (by omega) (by omega) (by omega)
          rw [if_pos c0, wid (r * r) (by omega) (by omega), if_pos k1, wid (r + 1) (by omega) (by omega), wid ((r + 1) * (r + 1)) (by omega) (by omega), decide_eq_true k2]
        · rw [if_neg c0]
      show laws_FnRoots.j0 (2000000001 + 1) n r c a b q m x y false = some true
      simp only [laws_FnRoots.j0]
      rw [if_neg (by decide)]
      by_cases y0 : y = 0
      · obtain ⟨k1, k2, k3, k4⟩ := hmix y0
        rw [if_pos y0, if_neg (by omega), if_neg (by omega)]
        by_cases q0 : q = 0
        · rw [if_pos q0, if_pos (k3 q0)]
          by_cases qm : q = m
          · rw [if_pos qm, if_pos (k4 qm)]; exact hend
          · rw [if_neg qm]; exact hend
        · rw [if_neg q0]
          by_cases qm : q = m
          · rw [if_pos qm, if_pos (k4 qm)]; exact hend
          · rw [if_neg qm]; exact hend
      · rw [if_neg y0]; exact hend
    refine ⟨2000000002, ?_⟩
    unfold laws_FnRoots.f
    rw [big_eq, decide_eq_false (by omega)]; simp only [Option.bind_some]
    rw [if_neg (by decide), hn _ (by omega)]; simp only [Option.bind_some]
    rw [hm _ (by omega)]
    unfold impl_RootOf.f spec_RootOf.f
    rw [spec_in_eq, impl_in_eq, bind_dec, bind_dec]
    obtain ⟨x, y, hxy⟩ : ∃ x y : Int, (x, y) = (if mixOk a b q m then (a + nrs ((b - a) * q) m, 0) else (0, 2)) := ⟨_, _, rfl⟩
    by_cases c : 0 ≤ n ∧ n ≤ 4000000000000000000
    · obtain ⟨r, r0, r1, r2, r3, hr⟩ := root_both n c.1 c.2
      obtain ⟨g1, g2⟩ := hr 2000000002 (by omega)
      rw [if_pos c, if_pos c, g1, g2]; simp only [Option.bind_some]
      rw [impl_MixOf_eq, spec_MixOf_eq, ← hxy]; simp only [Option.bind_some, if_true, bne_self_eq_false]
      exact key r 0 (fun _ => ⟨r2, r3, r0, r1⟩) x y hxy
    · rw [if_neg c, if_neg c]; simp only [Option.bind_some]
      rw [impl_MixOf_eq, spec_MixOf_eq, ← hxy]; simp only [Option.bind_some, if_true, bne_self_eq_false]
      exact key 0 2 (fun h => by omega) x y hxy
  · refine ⟨1, ?_⟩
    unfold laws_FnRoots.f
    rw [big_eq, decide_eq_true (by omega)]; rfl

end Go.Proofs.Ytcnaocjhfgnphaa.Pure
