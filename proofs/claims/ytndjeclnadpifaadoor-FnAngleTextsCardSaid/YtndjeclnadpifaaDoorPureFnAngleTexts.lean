/- Proved: for every code the law FnAngleTexts returns true. Conditions: none. -/
import Derived.Test.YtndjeclnadpifaaDoorQFnAngleTextsx9
namespace Go.Proofs.YtndjeclnadpifaaDoor.Pure
open Go.RowKit Go.Proofs.YtndjeclnadpifaaDoor.PFnAngleTexts Go.Proofs.YtndjeclnadpifaaDoorW.PrintWords Go.Proofs.YtndjeclnadpifaaDoorW.PrintLast Go.Proofs.YtndjeclnadpifaaDoorW.PrintMore
set_option linter.unusedVariables false
set_option linter.unusedSimpArgs false

theorem wid (n : Int) (h0 : -9223372036854775808 ≤ n) (h1 : n ≤ 9223372036854775807) : wrap64 n = n := by unfold wrap64; omega

theorem tmodP (a b : Int) (h : 0 ≤ a) : a.tmod b = a % b := Int.tmod_eq_emod_of_nonneg h

theorem tdivP (a b : Int) (h : 0 ≤ a) : a.tdiv b = a / b := Int.tdiv_eq_ediv_of_nonneg h

theorem ediv_bounds (a b : Int) (hb : 0 < b) : b * (a / b) + a % b = a ∧ 0 ≤ a % b ∧ a % b < b := ⟨Int.mul_ediv_add_emod a b, Int.emod_nonneg _ (by omega), Int.emod_lt_of_pos _ hb⟩

/-- Go's truncated quotient and remainder by a positive number, in Lean's floor form. -/
theorem tdiv_pos_spec (a b : Int) (hb : 0 < b) : a.tmod b = (if 0 ≤ a ∨ a % b = 0 then a % b else a % b - b) ∧ a.tdiv b = (if 0 ≤ a ∨ a % b = 0 then a / b else a / b + 1) := by
  have h1 : a.tdiv b = (if 0 ≤ a ∨ a % b = 0 then a / b else a / b + 1) := by
    rw [Int.tdiv_eq_ediv]
    have e : b.sign = 1 := Int.sign_eq_one_of_pos hb
    rw [e]
    have : (b ∣ a) ↔ a % b = 0 := Int.dvd_iff_emod_eq_zero
    by_cases h : 0 ≤ a ∨ a % b = 0
    · rw [if_pos h, if_pos (by rw [this]; exact h)]; omega
    · rw [if_neg h, if_neg (by rw [this]; exact h)]
  refine ⟨?_, h1⟩
  have h2 := Int.mul_tdiv_add_tmod a b
  have h3 := Int.mul_ediv_add_emod a b
  rw [h1] at h2
  by_cases h : 0 ≤ a ∨ a % b = 0
  · rw [if_pos h] at h2 ⊢; omega
  · rw [if_neg h] at h2 ⊢; rw [Int.mul_add] at h2; omega

theorem ediv_range (a b : Int) (hb : 0 < b) (A : Int) (h0 : -A ≤ a) (h1 : a ≤ A) (hA : 0 ≤ A) : -A ≤ a / b ∧ a / b ≤ A := by
  constructor
  · rw [Int.le_ediv_iff_mul_le hb]
    have : -A * b ≤ -A * 1 := by
      have : A * 1 ≤ A * b := Int.mul_le_mul_of_nonneg_left (by omega) hA
      rw [Int.neg_mul, Int.neg_mul]; omega
    omega
  · have : a / b ≤ A / b := Int.ediv_le_ediv hb h1
    have h2 : A / b ≤ A := Int.ediv_le_self _ hA
    omega

theorem impl_in_eq (n lo hi : Int) : impl_in.f n lo hi = some (decide (lo ≤ n ∧ n ≤ hi)) := by
  unfold impl_in.f; by_cases h : n ≥ lo
  · rw [if_pos h]; simp [show lo ≤ n from h]
  · rw [if_neg h]; simp [show ¬ lo ≤ n from h]

theorem spec_in_eq (n lo hi : Int) : spec_l01In.f n lo hi = some (decide (lo ≤ n ∧ n ≤ hi)) := by
  unfold spec_l01In.f; by_cases h : n ≥ lo
  · rw [if_pos h]; simp [show lo ≤ n from h]
  · rw [if_neg h]; simp [show ¬ lo ≤ n from h]

theorem impl_isValue_eq (n : Int) : impl_isValue.f n = some (decide (-1000000000000 ≤ n ∧ n ≤ 1000000000000)) := by
  unfold impl_isValue.f; rw [impl_in_eq]; rfl

theorem spec_is_eq (n : Int) : spec_l01Is.f n = some (decide (-1000000000000 ≤ n ∧ n ≤ 1000000000000)) := by
  unfold spec_l01Is.f; rw [spec_in_eq]; rfl

theorem impl_floor_pos (a b : Int) (hb : 0 < b) (h0 : -9223372036854775807 ≤ a) (h1 : a ≤ 9223372036854775807) : impl_floor.f a b = some (a / b) := by
  have hr := ediv_range a b hb 9223372036854775807 h0 h1 (by omega)
  obtain ⟨e1, e2⟩ := tdiv_pos_spec a b hb
  have hm := Int.emod_nonneg a (show b ≠ 0 by omega)
  have hm2 := Int.emod_lt_of_pos a hb
  unfold impl_floor.f
  rw [if_neg (by omega), e1, e2]
  by_cases h : 0 ≤ a ∨ a % b = 0
  · rw [if_pos h, if_pos h, wid _ (by omega) (by omega)]
    by_cases hz : a % b = 0
    · rw [if_pos hz]
    · rw [if_neg hz, if_neg]
      have : ¬ (a % b < 0) := by omega
      have : ¬ (b < 0) := by omega
      simp [*]
  · rw [if_neg h, if_neg h, if_neg (by omega), if_pos]
    · have : a / b + 1 ≤ 0 := by
        have := Int.ediv_neg_of_neg_of_pos (show a < 0 by omega) hb
        omega
      rw [wid (a / b + 1) (by omega) (by omega), wid _ (by omega) (by omega)]; congr 1; omega
    · have : (a % b - b < 0) := by omega
      have : ¬ (b < 0) := by omega
      simp [*]

theorem impl_mod_pos (a b : Int) (hb : 0 < b) (hb1 : b ≤ 9223372036854775807) (h0 : -9223372036854775807 ≤ a) (h1 : a ≤ 9223372036854775807) (hab : -9223372036854775807 ≤ a - b) : impl_mod.f a b = some (a % b) := by
  obtain ⟨e, m0, m1⟩ := ediv_bounds a b hb
  unfold impl_mod.f
  rw [impl_floor_pos a b hb h0 h1]
  have e2 : a / b * b = a - a % b := by rw [Int.mul_comm]; omega
  simp only [Option.bind_some]
  rw [e2, wid (a - a % b) (by omega) (by omega), wid _ (by omega) (by omega)]; congr 1; omega

theorem spec_mod_pos (a b : Int) (hb : 0 < b) (hb1 : b ≤ 4611686018427387904) : spec_l01Mod.f a b = some (a % b) := by
  unfold spec_l01Mod.f
  rw [if_neg (by omega)]
  obtain ⟨e1, e2⟩ := tdiv_pos_spec a b hb
  have m0 := Int.emod_nonneg a (show b ≠ 0 by omega)
  have m1 := Int.emod_lt_of_pos a hb
  rw [e1]
  by_cases h : 0 ≤ a ∨ a % b = 0
  · rw [if_pos h, wid _ (by omega) (by omega), tmodP _ _ (by omega), Int.add_emod_right, Int.emod_emod]
  · rw [if_neg h, wid _ (by omega) (by omega), tmodP _ _ (by omega)]
    have : a % b - b + b = a % b := by omega
    rw [this, Int.emod_emod]

theorem impl_plain_eq (a : Int) (h0 : -9000000000000000000 ≤ a) (h1 : a ≤ 9000000000000000000) : impl_plain.f a = some (a % 1296000) := by
  unfold impl_plain.f; rw [impl_mod_pos a _ (by omega) (by omega) (by omega) (by omega) (by omega)]; rfl

theorem spec_plain_eq (a : Int) : spec_l03Plain.f a = some (a % 1296000) := by
  unfold spec_l03Plain.f; rw [spec_mod_pos a _ (by omega) (by omega)]; rfl

/-- A source of draws over the code l: how many of its bytes are used, and its seed. -/
def src (l : List Int) (t s : Int) : Prop := (0 ≤ t ∧ t ≤ (l.length : Int)) ∧ (l.length ≤ 4096 ∧ ∀ x ∈ l, 0 ≤ x ∧ x ≤ 255) ∧ (0 ≤ s ∧ s < 2147483647)

theorem rd_byte (l : List Int) (h : ∀ x ∈ l, 0 ≤ x ∧ x ≤ 255) (i : Int) : 0 ≤ rd l i ∧ rd l i ≤ 255 := by
  unfold rd
  by_cases c : i.toNat < l.length
  · rw [List.getD_eq_getElem?_getD, List.getElem?_eq_getElem c]; exact h _ (List.getElem_mem c)
  · rw [List.getD_eq_getElem?_getD, List.getElem?_eq_none (by omega)]; simp

theorem from_loop (l : List Int) (hl : l.length ≤ 4096) (hb : ∀ x ∈ l, 0 ≤ x ∧ x ≤ 255) : ∀ (d : Nat) (i s : Int), 0 ≤ i → 64 - i ≤ d → 0 ≤ s → s < 2147483647 →
    ∃ s', (0 ≤ s' ∧ s' < 2147483647) ∧ ∀ k, d < k → spec_l01From.l0 k l i l 0 s = some (l, 0, s') := by
  intro d
  induction d with
  | zero =>
    intro i s h0 h1 h2 h3
    refine ⟨s, ⟨h2, h3⟩, fun k hk => ?_⟩
    obtain ⟨k, rfl⟩ : ∃ z, k = z + 1 := ⟨k - 1, by omega⟩
    simp only [spec_l01From.l0]
    by_cases c : i < (l.length : Int)
    · rw [if_pos c, if_neg (by omega)]
    · rw [if_neg c]
  | succ d ih =>
    intro i s h0 h1 h2 h3
    by_cases c : i < (l.length : Int)
    · by_cases c2 : i < 64
      · have hr := rd_byte l hb i
        have e1 : wrap64 (s * 71) = s * 71 := wid _ (by omega) (by omega)
        have e2 : wrap64 (rd l i) = rd l i := wid _ (by omega) (by omega)
        have e3 : wrap64 (s * 71 + rd l i) = s * 71 + rd l i := wid _ (by omega) (by omega)
        have e4 : Int.tmod (s * 71 + rd l i) 2147483647 = (s * 71 + rd l i) % 2147483647 := tmodP _ _ (by omega)
        obtain ⟨s', hs, hk⟩ := ih (i + 1) ((s * 71 + rd l i) % 2147483647) (by omega) (by omega) (by omega) (by omega)
        refine ⟨s', hs, fun k hk' => ?_⟩
        obtain ⟨k, rfl⟩ : ∃ z, k = z + 1 := ⟨k - 1, by omega⟩
        simp only [spec_l01From.l0]
        rw [if_pos c, if_pos c2, if_pos h0, e1, e2, e3, e4, wid (i + 1) (by omega) (by omega)]
        exact hk k (by omega)
      · refine ⟨s, ⟨h2, h3⟩, fun k hk => ?_⟩
        obtain ⟨k, rfl⟩ : ∃ z, k = z + 1 := ⟨k - 1, by omega⟩
        simp only [spec_l01From.l0]; rw [if_pos c, if_neg c2]
    · refine ⟨s, ⟨h2, h3⟩, fun k hk => ?_⟩
      obtain ⟨k, rfl⟩ : ∃ z, k = z + 1 := ⟨k - 1, by omega⟩
      simp only [spec_l01From.l0]; rw [if_neg c]

theorem from_eq (l : List Int) (hl : l.length ≤ 4096) (hb : ∀ x ∈ l, 0 ≤ x ∧ x ≤ 255) : ∃ s, src l 0 s ∧ ∀ k, 64 < k → spec_l01From.f k l = some (l, 0, s) := by
  obtain ⟨s, hs, hk⟩ := from_loop l hl hb 64 0 21013 (by omega) (by omega) (by omega) (by omega)
  exact ⟨s, ⟨⟨by omega, by omega⟩, ⟨hl, hb⟩, hs⟩, hk⟩

theorem next_eq {l : List Int} {t s : Int} (h : src l t s) (n : Int) (hn : n ≤ 1000000000000000000) : ∃ v t' s', spec_l01Next.f l t s n = some (v, t', s') ∧ src l t' s' ∧ 0 ≤ v ∧ (v < n ∨ v = 0 ∧ n ≤ 1) := by
  obtain ⟨⟨t0, t1⟩, ⟨l0, l1⟩, s0, s1⟩ := h
  unfold spec_l01Next.f
  by_cases c : n ≤ 1
  · rw [if_pos c]; exact ⟨0, t, s, rfl, ⟨⟨t0, t1⟩, ⟨l0, l1⟩, s0, s1⟩, by omega, .inr ⟨rfl, c⟩⟩
  · have e1 : wrap64 (s * 48271) = s * 48271 := wid _ (by omega) (by omega)
    have e2 : wrap64 (s * 48271 + 29) = s * 48271 + 29 := wid _ (by omega) (by omega)
    have e3 : Int.tmod (s * 48271 + 29) 2147483647 = (s * 48271 + 29) % 2147483647 := tmodP _ _ (by omega)
    rw [if_neg c, e1, e2, e3]
    generalize hq : (s * 48271 + 29) % 2147483647 = q
    have q0 : 0 ≤ q ∧ q < 2147483647 := by omega
    have e4 : wrap64 (Int.tdiv q 31) = q / 31 := by rw [tdivP _ _ q0.1]; exact wid _ (by omega) (by omega)
    have n0 : ¬ n = 0 := by omega
    rw [e4]
    have hm : ∀ x : Int, 0 ≤ x → 0 ≤ Int.tmod x n ∧ Int.tmod x n < n := by
      intro x hx
      rw [tmodP _ _ hx]; exact ⟨Int.emod_nonneg _ (by omega), Int.emod_lt_of_pos _ (by omega)⟩
    by_cases c1 : t < (l.length : Int)
    · have hr := rd_byte l l1 t
      have e5 : wrap64 (t + 1) = t + 1 := wid _ (by omega) (by omega)
      have e6 : wrap64 (rd l t) = rd l t := wid _ (by omega) (by omega)
      have e7 : wrap64 (q / 31 + rd l t) = q / 31 + rd l t := wid _ (by omega) (by omega)
      have e8 : wrap64 (t + 1 - 1) = t := by rw [show t + 1 - 1 = t by omega]; exact wid _ (by omega) (by omega)
      rw [if_pos c1, if_pos t0, e5, e8, e6, e7, if_neg n0, if_neg n0, if_pos t0, if_pos c1]
      have hs' : src l (t + 1) q := ⟨⟨by omega, by omega⟩, ⟨l0, l1⟩, q0.1, q0.2⟩
      have a1 := hm (rd l t) hr.1
      have a2 := hm (q / 31 + rd l t) (by omega)
      by_cases c2 : n ≤ 256
      · rw [if_pos c2]
        by_cases c3 : Int.tmod (t + 1) 2 = 0
        · rw [if_pos c3]; exact ⟨_, _, _, rfl, hs', a1.1, .inl a1.2⟩
        · rw [if_neg c3]; exact ⟨_, _, _, rfl, hs', a2.1, .inl a2.2⟩
      · rw [if_neg c2]; exact ⟨_, _, _, rfl, hs', a2.1, .inl a2.2⟩
    · have a3 := hm (q / 31) (by omega)
      rw [if_neg c1, if_neg n0]; exact ⟨_, _, _, rfl, ⟨⟨t0, t1⟩, ⟨l0, l1⟩, q0.1, q0.2⟩, a3.1, .inl a3.2⟩

theorem pick_eq {l : List Int} {t s : Int} (h : src l t s) (xs : List Int) (h1 : 0 < xs.length) (h2 : xs.length ≤ 100) : ∃ v t' s', spec_l01Pick.f l t s xs = some (v, t', s') ∧ src l t' s' ∧ v ∈ xs := by
  obtain ⟨v, t', s', e, hs, v0, v1⟩ := next_eq h (xs.length : Int) (by omega)
  unfold spec_l01Pick.f
  rw [e]; simp only [Option.bind_some]
  have hv : v < (xs.length : Int) := by omega
  rw [if_pos v0, if_pos hv]
  refine ⟨_, _, _, rfl, hs, ?_⟩
  unfold rd
  have hlt : v.toNat < xs.length := by omega
  rw [List.getD_eq_getElem?_getD, List.getElem?_eq_getElem hlt]; exact List.getElem_mem hlt

theorem drawValue_eq {l : List Int} {t s : Int} (h : src l t s) : ∃ v t' s', spec_l01DrawValue.f l t s = some (v, t', s') ∧ src l t' s' ∧ -2000000000000 ≤ v ∧ v ≤ 2000000000000 := by
  unfold spec_l01DrawValue.f
  obtain ⟨v1, t1, s1, e1, h1, b1, _⟩ := next_eq h 10 (by omega)
  rw [e1]; simp only [Option.bind_some]
  by_cases c : v1 = 0
  · obtain ⟨v2, t2, s2, e2, h2, m2⟩ := pick_eq h1 [0, 1000000000000, 1000000000001, (-1000000000000), (-1000000000001), 1] (by simp) (by simp)
    rw [if_pos c, e2]; simp only [Option.bind_some]
    refine ⟨v2, t2, s2, rfl, h2, ?_⟩
    simp only [List.mem_cons, List.not_mem_nil, or_false] at m2; omega
  · obtain ⟨v2, t2, s2, e2, h2, b2, c2⟩ := next_eq h1 41 (by omega)
    obtain ⟨v3, t3, s3, e3, h3, b3, c3⟩ := next_eq h2 2001 (by omega)
    obtain ⟨v4, t4, s4, e4, h4, b4, c4⟩ := next_eq h3 2000000001 (by omega)
    rw [if_neg c, e2]; simp only [Option.bind_some]
    rw [e3]; simp only [Option.bind_some]
    rw [e4]; simp only [Option.bind_some]
    rw [wid (v2 - 20) (by omega) (by omega), wid (v3 - 1000) (by omega) (by omega), wid (v4 - 1000000000) (by omega) (by omega)]
    obtain ⟨v5, t5, s5, e5, h5, m5⟩ := pick_eq h4 [v2 - 20, v3 - 1000, v4 - 1000000000] (by simp) (by simp)
    rw [e5]; simp only [Option.bind_some]
    refine ⟨v5, t5, s5, rfl, h5, ?_⟩
    simp only [List.mem_cons, List.not_mem_nil, or_false] at m5; omega

theorem l03Draw_eq {l : List Int} {t s : Int} (h : src l t s) : ∃ v t' s', spec_l03Draw.f l t s = some (v, t', s') ∧ src l t' s' ∧ -2000000000000 ≤ v ∧ v ≤ 2000000000000 := by
  unfold spec_l03Draw.f
  obtain ⟨v1, t1, s1, e1, h1, b1, _⟩ := next_eq h 12 (by omega)
  rw [e1]; simp only [Option.bind_some]
  by_cases c : v1 = 0
  · obtain ⟨v2, t2, s2, e2, h2, m2⟩ := pick_eq h1 [0, 648000, (-648000), 1296000, 324000, 1295999, 647999] (by simp) (by simp)
    rw [if_pos c, e2]; simp only [Option.bind_some]
    refine ⟨v2, t2, s2, rfl, h2, ?_⟩
    simp only [List.mem_cons, List.not_mem_nil, or_false] at m2; omega
  · rw [if_neg c]
    by_cases d : v1 = 1
    · obtain ⟨v2, t2, s2, e2, h2, m2⟩ := drawValue_eq h1
      rw [if_pos d, e2]; simp only [Option.bind_some]
      exact ⟨v2, t2, s2, rfl, h2, m2⟩
    · obtain ⟨v2, t2, s2, e2, h2, b2, c2⟩ := next_eq h1 1296000 (by omega)
      obtain ⟨v3, t3, s3, e3, h3, b3, c3⟩ := next_eq h2 3888000 (by omega)
      obtain ⟨v4, t4, s4, e4, h4, b4, c4⟩ := next_eq h3 721 (by omega)
      rw [if_neg d, e2]; simp only [Option.bind_some]
      rw [e3]; simp only [Option.bind_some]
      rw [e4]; simp only [Option.bind_some]
      rw [wid (v3 - 1296000) (by omega) (by omega), wid (v4 - 360) (by omega) (by omega), wid (3600 * (v4 - 360)) (by omega) (by omega)]
      obtain ⟨v5, t5, s5, e5, h5, m5⟩ := pick_eq h4 [v2, v3 - 1296000, 3600 * (v4 - 360)] (by simp) (by simp)
      rw [e5]; simp only [Option.bind_some]
      refine ⟨v5, t5, s5, rfl, h5, ?_⟩
      simp only [List.mem_cons, List.not_mem_nil, or_false] at m5; omega

/-- What the laws over a code take of it. -/
theorem code_bytes {l : List Int} (h : ∀ x ∈ l, (Lit.int .u8 x).wf = true) : ∀ x ∈ l, 0 ≤ x ∧ x ≤ 255 := by
  intro x hx
  have := h x hx
  simp [Lit.wf, IntKind.min, IntKind.max, IntKind.signed, IntKind.bits] at this
  omega

theorem big_eq (l : List Int) : laws_big.f l = some (decide ((l.length : Int) > 4096)) := rfl

theorem dig1 (u : Nat) (h : u < 10) : Lib.decDigits u = [UInt8.ofNat (48 + u)] := by rw [Lib.decDigits, dif_pos h]

theorem dig2 (u : Nat) (h0 : 10 ≤ u) : Lib.decDigits u = Lib.decDigits (u / 10) ++ [UInt8.ofNat (48 + u % 10)] := by rw [Lib.decDigits, dif_neg (by omega)]

theorem digs_len : ∀ (d u : Nat), u < 10 ^ (d + 1) → (Lib.decDigits u).length ≤ d + 1 := by
  intro d
  induction d with
  | zero => intro u h; rw [dig1 u (by omega)]; simp
  | succ d ih =>
    intro u h
    by_cases c : u < 10
    · rw [dig1 u c]; simp
    · rw [dig2 u (by omega)]
      have := ih (u / 10) (by rw [Nat.pow_succ] at h; omega)
      simp only [List.length_append, List.length_cons, List.length_nil]; omega

theorem nums1 (x : Int) : strOfNums [x] = ⟨#[UInt8.ofNat x.toNat]⟩ := by simp [strOfNums]

theorem nums2 (x y : Int) : strOfNums [x, y] = ⟨#[UInt8.ofNat x.toNat, UInt8.ofNat y.toNat]⟩ := by simp [strOfNums]

theorem ba_append (l m : List UInt8) : (⟨l.toArray⟩ : ByteArray) ++ (⟨m.toArray⟩ : ByteArray) = ⟨(l ++ m).toArray⟩ := by
  apply ByteArray.ext
  simp [ByteArray.data_append]

theorem ba_size (l : List UInt8) : (⟨l.toArray⟩ : ByteArray).size = l.length := by simp [ByteArray.size]

/-- The specification's decimal numeral is the library's. -/
theorem dec_eq : ∀ (d : Nat) (u : Nat), u < 10 ^ (d + 1) → d ≤ 17 → ∀ k, d < k → spec_l01Dec.f k (u : Int) = some ⟨(Lib.decDigits u).toArray⟩ := by
  intro d
  induction d with
  | zero =>
    intro u h _ k hk
    obtain ⟨k, rfl⟩ : ∃ m, k = m + 1 := ⟨k - 1, by omega⟩
    rw [spec_l01Dec.f, if_pos (by omega), nums1, wid (48 + (u : Int)) (by omega) (by omega), dig1 u (by omega), show ((48 + (u : Int)) % 256).toNat = 48 + u by omega]
  | succ d ih =>
    intro u h hd k hk
    obtain ⟨k, rfl⟩ : ∃ m, k = m + 1 := ⟨k - 1, by omega⟩
    have hb : u < 10 ^ 18 := Nat.lt_of_lt_of_le h (Nat.pow_le_pow_right (by omega) (by omega))
    by_cases c : u < 10
    · rw [spec_l01Dec.f, if_pos (by omega), nums1, wid (48 + (u : Int)) (by omega) (by omega), dig1 u c, show ((48 + (u : Int)) % 256).toNat = 48 + u by omega]
    · have e1 : wrap64 (Int.tdiv (u : Int) 10) = ((u / 10 : Nat) : Int) := by rw [tdivP _ _ (by omega), wid _ (by omega) (by omega)]; omega
      have e2 : Int.tmod (u : Int) 10 = ((u % 10 : Nat) : Int) := by rw [tmodP _ _ (by omega)]; omega
      have hlen := digs_len d (u / 10) (by rw [Nat.pow_succ] at h; omega)
      rw [spec_l01Dec.f, if_neg (by omega), e1, ih (u / 10) (by rw [Nat.pow_succ] at h; omega) (by omega) k (by omega), e2, wid (48 + ((u % 10 : Nat) : Int)) (by omega) (by omega)]
      simp only [Option.bind_some]
      rw [nums1, show ((48 + ((u % 10 : Nat) : Int)) % 256).toNat = 48 + u % 10 by omega, if_pos (by rw [ba_size]; show _ + 1 ≤ _; omega), dig2 u (by omega)]
      exact congrArg some (ba_append _ [_])

theorem itoa_nat (u : Nat) : Lib.itoa (u : Int) = Lib.decDigits u := by unfold Lib.itoa; rw [if_neg (by omega)]; simp

theorem decimal_eq (k u : Nat) (h : u < 10 ^ 18) : impl_decimal.f k (u : Int) = some ⟨(Lib.decDigits u).toArray⟩ := by
  unfold impl_decimal.f; rw [if_pos (by omega), if_pos (by omega), itoa_nat]

def twoT (u : Nat) : ByteArray := ⟨#[UInt8.ofNat (48 + u / 10), UInt8.ofNat (48 + u % 10)]⟩

theorem spec_two_text (u : Nat) (h : u < 100) : spec_l03Two.f (u : Int) = some (twoT u) := by
  unfold spec_l03Two.f twoT
  rw [tdivP _ _ (by omega), tmodP _ _ (by omega), wid ((u : Int) / 10) (by omega) (by omega), wid (48 + (u : Int) / 10) (by omega) (by omega), wid (48 + (u : Int) % 10) (by omega) (by omega), nums2,
    show ((48 + (u : Int) / 10) % 256).toNat = 48 + u / 10 by omega, show ((48 + (u : Int) % 10) % 256).toNat = 48 + u % 10 by omega]

theorem padded_eq (k u : Nat) (h : u < 100) : impl_padded.f (k + 2) (u : Int) 2 = some (twoT u) := by
  unfold impl_padded.f twoT
  rw [decimal_eq _ u (by omega)]
  simp only [Option.bind_some]
  by_cases c : u < 10
  · rw [dig1 u c, impl_padded.l0, if_pos (by rw [ba_size]; simp), if_pos (by rw [ba_size]; simp), show (⟨#[48]⟩ : ByteArray) ++ ⟨[UInt8.ofNat (48 + u)].toArray⟩ = ⟨[48, UInt8.ofNat (48 + u)].toArray⟩ from ba_append [48] _, impl_padded.l0, if_neg (by rw [ba_size]; simp), show u / 10 = 0 by omega, show u % 10 = u by omega]
    rfl
  · rw [dig2 u (by omega), dig1 (u / 10) (by omega), impl_padded.l0, if_neg (by rw [ba_size]; simp)]
    rfl

def angT (a : Int) : ByteArray := ((((((if a < 0 then (⟨#[45]⟩ : ByteArray) else (⟨#[]⟩ : ByteArray)) ++ (⟨(Lib.decDigits (a.natAbs / 3600)).toArray⟩ : ByteArray)) ++ (⟨#[100]⟩ : ByteArray)) ++ twoT (a.natAbs / 60 % 60)) ++ (⟨#[109]⟩ : ByteArray)) ++ twoT (a.natAbs % 60)) ++ (⟨#[115]⟩ : ByteArray)

theorem ba_one (x : UInt8) : (⟨#[x]⟩ : ByteArray).size = 1 := rfl

theorem ba_none : (⟨#[]⟩ : ByteArray).size = 0 := rfl

theorem digs_arr (u : Nat) (h : u < 1000) : ∃ D : ByteArray, (⟨(Lib.decDigits u).toArray⟩ : ByteArray) = D ∧ D.size ≤ 3 := ⟨_, rfl, by rw [ba_size]; exact digs_len 2 u (by omega)⟩

theorem two_arr (u : Nat) : ∃ D : ByteArray, twoT u = D ∧ D.size = 2 := ⟨_, rfl, rfl⟩

theorem l03Text_eq (k : Nat) (a : Int) (h0 : -648000 ≤ a) (h1 : a ≤ 1296000) : spec_l03Text.f (k + 10) a = some (angT a) := by
  have hD : ∀ x : Int, x = ((a.natAbs / 3600 : Nat) : Int) → spec_l01Dec.f (k + 10) x = some ⟨(Lib.decDigits (a.natAbs / 3600)).toArray⟩ := fun x hx => by rw [hx]; exact dec_eq 2 _ (by omega) (by omega) _ (by omega)
  have hM : ∀ x : Int, x = ((a.natAbs / 60 % 60 : Nat) : Int) → spec_l03Two.f x = some (twoT (a.natAbs / 60 % 60)) := fun x hx => by rw [hx]; exact spec_two_text _ (by omega)
  have hS : ∀ x : Int, x = ((a.natAbs % 60 : Nat) : Int) → spec_l03Two.f x = some (twoT (a.natAbs % 60)) := fun x hx => by rw [hx]; exact spec_two_text _ (by omega)
  unfold spec_l03Text.f angT
  obtain ⟨D, eD, zD⟩ := digs_arr (a.natAbs / 3600) (by omega)
  obtain ⟨M, eM, zM⟩ := two_arr (a.natAbs / 60 % 60)
  obtain ⟨S, eS, zS⟩ := two_arr (a.natAbs % 60)
  rw [eD] at hD ⊢; rw [eM] at hM ⊢; rw [eS] at hS ⊢
  by_cases c : a < 0
  · rw [if_pos c, wid (-a) (by omega) (by omega), tdivP _ _ (by omega), tdivP _ _ (by omega), wid (-a / 3600) (by omega) (by omega), wid (-a / 60) (by omega) (by omega), tmodP _ _ (by omega), tmodP _ _ (by omega), hD _ (by omega), hM _ (by omega), hS _ (by omega)]
    simp only [Option.bind_some, ByteArray.size_append, ba_one, if_pos c, zM, zS]
    rw [if_pos (show 1 + D.size ≤ 9223372036854775807 by omega), if_pos (show 1 + D.size + 1 ≤ 9223372036854775807 by omega), if_pos (show 1 + D.size + 1 + 2 ≤ 9223372036854775807 by omega), if_pos (show 1 + D.size + 1 + 2 + 1 ≤ 9223372036854775807 by omega), if_pos (show 1 + D.size + 1 + 2 + 1 + 2 ≤ 9223372036854775807 by omega), if_pos (show 1 + D.size + 1 + 2 + 1 + 2 + 1 ≤ 9223372036854775807 by omega)]
  · rw [if_neg c, tdivP _ _ (by omega), tdivP _ _ (by omega), wid (a / 3600) (by omega) (by omega), wid (a / 60) (by omega) (by omega), tmodP _ _ (by omega), tmodP _ _ (by omega), hD _ (by omega), hM _ (by omega), hS _ (by omega)]
    simp only [Option.bind_some, ByteArray.size_append, ba_one, ba_none, if_neg c, zM, zS]
    rw [if_pos (show 0 + D.size ≤ 9223372036854775807 by omega), if_pos (show 0 + D.size + 1 ≤ 9223372036854775807 by omega), if_pos (show 0 + D.size + 1 + 2 ≤ 9223372036854775807 by omega), if_pos (show 0 + D.size + 1 + 2 + 1 ≤ 9223372036854775807 by omega), if_pos (show 0 + D.size + 1 + 2 + 1 + 2 ≤ 9223372036854775807 by omega), if_pos (show 0 + D.size + 1 + 2 + 1 + 2 + 1 ≤ 9223372036854775807 by omega)]

theorem padded_eq9 (k u : Nat) (h : u < 100) : ∀ x : Int, x = (u : Int) → impl_padded.f (k + 9) x 2 = some (twoT u) := fun x hx => by
  have := padded_eq (k + 7) u h
  rw [hx]; simpa using this

theorem decimal_eq9 (k u : Nat) (h : u < 1000) : ∀ x : Int, x = (u : Int) → impl_decimal.f k x = some ⟨(Lib.decDigits u).toArray⟩ := fun x hx => by rw [hx]; exact decimal_eq k u (by omega)

theorem abs_eq (a : Int) (h0 : -648000 ≤ a) (h1 : a ≤ 1296000) : impl_abs.f a = some (a.natAbs : Int) := by
  unfold impl_abs.f mx; rw [wid (-a) (by omega) (by omega)]; congr 1; split <;> omega

theorem sign_size (a : Int) : (if a < 0 then (⟨#[45]⟩ : ByteArray) else (⟨#[]⟩ : ByteArray)).size ≤ 1 := by
  by_cases c : a < 0
  · rw [if_pos c, ba_one]; omega
  · rw [if_neg c, ba_none]; omega

theorem impl_AngleText_j (k : Nat) (a : Int) (h0 : -648000 ≤ a) (h1 : a ≤ 1296000) : impl_AngleText.j0 (k + 10) a (if a < 0 then (⟨#[45]⟩ : ByteArray) else (⟨#[]⟩ : ByteArray)) = some (angT a, 0) := by
  have hD := decimal_eq9 (k + 9) (a.natAbs / 3600) (by omega)
  have hM := padded_eq9 k (a.natAbs / 60 % 60) (by omega)
  have hS := padded_eq9 k (a.natAbs % 60) (by omega)
  have hA := abs_eq a h0 h1
  have hx := sign_size a
  unfold angT
  obtain ⟨D, eD, zD⟩ := digs_arr (a.natAbs / 3600) (by omega)
  obtain ⟨M, eM, zM⟩ := two_arr (a.natAbs / 60 % 60)
  obtain ⟨S, eS, zS⟩ := two_arr (a.natAbs % 60)
  rw [eD] at hD ⊢; rw [eM] at hM ⊢; rw [eS] at hS ⊢
  generalize (if a < 0 then (⟨#[45]⟩ : ByteArray) else (⟨#[]⟩ : ByteArray)) = X at hx ⊢
  have hb : ∃ b : Int, b = (a.natAbs : Int) := ⟨_, rfl⟩
  obtain ⟨b, hb⟩ := hb
  rw [← hb] at hA
  unfold impl_AngleText.j0
  simp only [hA, Option.bind_some]
  rw [tdivP _ _ (by omega), tdivP _ _ (by omega), wid (b / 3600) (by omega) (by omega), wid (b / 60) (by omega) (by omega), tmodP _ _ (by omega), tmodP _ _ (by omega), hD _ (by omega), hM _ (by omega), hS _ (by omega)]
  simp only [Option.bind_some, ByteArray.size_append, ba_one, zM, zS]
  rw [if_pos (show X.size + D.size ≤ 9223372036854775807 by omega), if_pos (show X.size + D.size + 1 ≤ 9223372036854775807 by omega), if_pos (show X.size + D.size + 1 + 2 ≤ 9223372036854775807 by omega), if_pos (show X.size + D.size + 1 + 2 + 1 ≤ 9223372036854775807 by omega), if_pos (show X.size + D.size + 1 + 2 + 1 + 2 ≤ 9223372036854775807 by omega), if_pos (show X.size + D.size + 1 + 2 + 1 + 2 + 1 ≤ 9223372036854775807 by omega)]

theorem spec_AngleText_eq (k : Nat) (a : Int) : spec_AngleText.f (k + 30) a = some (if -648000 ≤ a ∧ a ≤ 1296000 then (angT a, 0) else ((⟨#[]⟩ : ByteArray), 2)) := by
  unfold spec_AngleText.f
  rw [spec_in_eq]
  by_cases c : -648000 ≤ a ∧ a ≤ 1296000
  · simp only [Option.bind_some, if_pos (decide_eq_true c), if_pos c]
    rw [l03Text_eq (k + 20) a c.1 c.2]; rfl
  · simp [c]

theorem impl_AngleText_eq (k : Nat) (a : Int) : impl_AngleText.f (k + 30) a = some (if -648000 ≤ a ∧ a ≤ 1296000 then (angT a, 0) else ((⟨#[]⟩ : ByteArray), 2)) := by
  unfold impl_AngleText.f
  rw [impl_in_eq]
  by_cases c : -648000 ≤ a ∧ a ≤ 1296000
  · simp only [Option.bind_some, if_pos (decide_eq_true c), if_pos c]
    rw [← impl_AngleText_j (k + 20) a c.1 c.2]
    split <;> rfl
  · simp [c]

def valD (a : Nat) (l : List UInt8) : Nat := l.foldl (fun x c => x * 10 + (c.toNat - 48)) a

theorem valD_nil (a : Nat) : valD a [] = a := rfl

theorem valD_cons (a : Nat) (c : UInt8) (r : List UInt8) : valD a (c :: r) = valD (a * 10 + (c.toNat - 48)) r := by unfold valD; rw [List.foldl_cons]

def isD (c : UInt8) : Prop := 48 ≤ c.toNat ∧ c.toNat ≤ 57

theorem valD_append (l m : List UInt8) (a : Nat) : valD a (l ++ m) = valD (valD a l) m := List.foldl_append

theorem valD_ge (l : List UInt8) : ∀ a : Nat, a ≤ valD a l := by
  induction l with
  | nil => intro a; exact Nat.le_refl _
  | cons c r ih =>
    intro a
    rw [valD_cons]
    have := ih (a * 10 + (c.toNat - 48))
    omega

theorem u8_dig (u : Nat) (h : u < 10) : (UInt8.ofNat (48 + u)).toNat = 48 + u := by
  rw [UInt8.toNat_ofNat']; omega

theorem digs_isD : ∀ (d u : Nat), u < 10 ^ (d + 1) → (∀ c ∈ Lib.decDigits u, isD c) ∧ valD 0 (Lib.decDigits u) = u ∧ 0 < (Lib.decDigits u).length := by
  intro d
  induction d with
  | zero =>
    intro u h
    rw [dig1 u (by omega)]
    have := u8_dig u (by omega)
    refine ⟨?_, ?_, by simp⟩
    · intro c hc
      rw [List.mem_singleton] at hc
      subst hc
      unfold isD; omega
    · rw [valD_cons, valD_nil]; omega
  | succ d ih =>
    intro u h
    by_cases c : u < 10
    · rw [dig1 u c]
      have := u8_dig u c
      refine ⟨?_, ?_, by simp⟩
      · intro c hc
        rw [List.mem_singleton] at hc
        subst hc
        unfold isD; omega
      · rw [valD_cons, valD_nil]; omega
    · rw [dig2 u (by omega)]
      obtain ⟨h1, h2, h3⟩ := ih (u / 10) (by rw [Nat.pow_succ] at h; omega)
      have := u8_dig (u % 10) (by omega)
      refine ⟨?_, ?_, by simp⟩
      · intro c hc
        rw [List.mem_append, List.mem_singleton] at hc
        rcases hc with hc | hc
        · exact h1 c hc
        · subst hc; unfold isD; omega
      · rw [valD_append, h2, valD_cons, valD_nil]; omega

theorem parse_digs (M : Nat) (l : List UInt8) : ∀ (a : Nat), (∀ c ∈ l, isD c) → valD a l ≤ M → valD a l < 10000000000000000000 → Lib.parseUintM M a l = .ok (valD a l) := by
  induction l with
  | nil => intro a _ _ _; rfl
  | cons c r ih =>
    intro a hd hM hT
    have hc := hd c (by simp)
    unfold isD at hc
    rw [valD_cons] at hM hT ⊢
    have hg := valD_ge r (a * 10 + (c.toNat - 48))
    rw [Lib.parseUintM, if_pos hc, if_neg (by omega), if_neg (by omega)]
    exact ih _ (fun x hx => hd x (by simp [hx])) hM hT

theorem parse_dec (u : Nat) (h : u < 1000000000000000000) : Lib.parseUintB 64 (Lib.decDigits u) = .ok u := by
  obtain ⟨h1, h2, h3⟩ := digs_isD 17 u (by omega)
  unfold Lib.parseUintB
  rw [if_neg (by intro e; rw [e] at h3; simp at h3), parse_digs _ _ 0 h1 (by rw [h2]; omega) (by rw [h2]; omega), h2]

theorem parse_itoa (v : Int) (h0 : -1000000000000000000 < v) (h1 : v < 1000000000000000000) : Lib.parseIntB 64 (Lib.itoa v) = .ok v := by
  have hp := parse_dec v.natAbs (by omega)
  unfold Lib.itoa
  by_cases c : v < 0
  · rw [if_pos c, Lib.parseIntB_minus, hp, Lib.signedC, if_neg (by omega)]
    congr 1; omega
  · rw [if_neg c, show v.toNat = v.natAbs by omega]
    obtain ⟨d1, d2, d3⟩ := digs_isD 17 v.natAbs (by omega)
    cases e : Lib.decDigits v.natAbs with
    | nil => rw [e] at d3; simp at d3
    | cons b r =>
      rw [e] at d1 hp
      have hb := d1 b (by simp)
      unfold isD at hb
      rw [Lib.parseIntB_plain 64 b r (by omega) (by omega), hp, Lib.signlessC, if_neg (by omega)]
      congr 1; omega

def encI (x : Int) : ByteArray := ⟨(Lib.itoa x).toArray⟩

theorem ba_eq {s t : ByteArray} (h : (s.toList == t.toList) = true) : s = t := by
  have h := beq_iff_eq.1 h
  rw [ByteArray.toList_eq, ByteArray.toList_eq] at h
  obtain ⟨⟨a⟩⟩ := s
  obtain ⟨⟨b⟩⟩ := t
  simp at h
  rw [h]

theorem ba_beq (s : ByteArray) : (s.toList == s.toList) = true := beq_self_eq_true _

theorem itoa_len19 (v : Int) (h0 : -1000000000000000000 < v) (h1 : v < 1000000000000000000) : (Lib.itoa v).length ≤ 19 := by
  have := digs_len 17 v.natAbs (by omega)
  unfold Lib.itoa
  split
  · simp only [List.length_cons]; omega
  · rw [show v.toNat = v.natAbs by omega]; omega

/-- impl: total, and what it accepts is canonical. -/
theorem readDec_total (k : Nat) (w : ByteArray) : ∃ r, impl_readDecimal.f k w = some r ∧ (r.2 = true → w = encI r.1) := by
  unfold impl_readDecimal.f
  by_cases c : w.size > 19
  · exact ⟨_, by rw [if_pos c], fun h => absurd h (by simp)⟩
  · rw [if_neg c]
    cases hp : Lib.parseIntB 64 w.data.toList
    · rename_i v
      have hb := Lib.parseIntB_bounds hp
      have e : (2 : Nat) ^ (64 - 1) = 9223372036854775808 := by decide
      rw [e] at hb
      have hd : impl_decimal.f k v = some (encI v) := by unfold impl_decimal.f encI; rw [if_pos (by omega), if_pos (by omega)]
      refine ⟨(v, (encI v).toList == w.toList), ?_, fun h => (ba_eq h).symm⟩
      simp only [hd, Option.bind_some]
    · exact ⟨_, rfl, fun h => absurd h (by simp)⟩
    · exact ⟨_, rfl, fun h => absurd h (by simp)⟩

theorem readDec_of (k : Nat) (v : Int) (h0 : -1000000000000000000 < v) (h1 : v < 1000000000000000000) : impl_readDecimal.f k (encI v) = some (v, true) := by
  have hl := itoa_len19 v h0 h1
  have hp := parse_itoa v h0 h1
  have hd : impl_decimal.f k v = some (encI v) := by unfold impl_decimal.f encI; rw [if_pos (by omega), if_pos (by omega)]
  unfold impl_readDecimal.f
  rw [if_neg (by unfold encI; rw [ba_size]; omega)]
  have e : (encI v).data.toList = Lib.itoa v := by unfold encI; simp
  rw [e, hp]
  simp only [hd, Option.bind_some, ba_beq]
/-! spec -/

theorem bt_nat (w : ByteArray) (i : Nat) (h : i < w.size) : bt w (i : Int) = (w.data.toList[i]'(by rw [data_length]; exact h)).toNat := by
  unfold bt
  rw [dif_pos (by simpa using h)]
  rfl

theorem spec_value_loop (w : ByteArray) (hs : w.size ≤ 13) : ∀ (d i : Nat) (x : Nat), i + d = w.size → x < 10 ^ i → ∀ k, d + 30 < k →
    ∃ r, spec_l01Value.l0 k w (x : Int) (i : Int) = some r ∧ (r.2 = true → ∃ u : Nat, u < 10 ^ 13 ∧ r.1 = (u : Int) ∧ w = ⟨(Lib.decDigits u).toArray⟩) := by
  intro d
  induction d with
  | zero =>
    intro i x hi hx k hk
    obtain ⟨k, rfl⟩ : ∃ m, k = m + 1 := ⟨k - 1, by omega⟩
    have hx13 : x < 10 ^ 13 := Nat.lt_of_lt_of_le hx (Nat.pow_le_pow_right (by omega) (by omega))
    refine ⟨((x : Int), (⟨(Lib.decDigits x).toArray⟩ : ByteArray).toList == w.toList), ?_, fun h => ⟨x, hx13, rfl, (ba_eq h).symm⟩⟩
    rw [spec_l01Value.l0, if_neg (by omega), dec_eq 12 x (by omega) (by omega) k (by omega)]
    rfl
  | succ d ih =>
    intro i x hi hx k hk
    obtain ⟨k, rfl⟩ : ∃ m, k = m + 1 := ⟨k - 1, by omega⟩
    have hr := bt_range w (i : Int)
    have hx12 : x < 10 ^ 12 := Nat.lt_of_lt_of_le hx (Nat.pow_le_pow_right (by omega) (by omega))
    rw [spec_l01Value.l0, if_pos (by omega), if_pos (by omega)]
    by_cases c1 : bt w (i : Int) < 48
    · exact ⟨_, by rw [if_pos c1], fun h => absurd h (by simp)⟩
    · rw [if_neg c1]
      by_cases c2 : bt w (i : Int) > 57
      · exact ⟨_, by rw [if_pos c2], fun h => absurd h (by simp)⟩
      · rw [if_neg c2, wid (10 * (x : Int)) (by omega) (by omega), wid (10 * (x : Int) + (bt w (i : Int) - 48) % 256) (by omega) (by omega), wid ((i : Int) + 1) (by omega) (by omega)]
        have := ih (i + 1) (10 * x + ((bt w (i : Int) - 48) % 256).toNat) (by omega) (by rw [Nat.pow_succ]; omega) k (by omega)
        rw [show ((10 * x + ((bt w (i : Int) - 48) % 256).toNat : Nat) : Int) = 10 * (x : Int) + (bt w (i : Int) - 48) % 256 by omega, show ((i + 1 : Nat) : Int) = (i : Int) + 1 by omega] at this
        exact this

theorem spec_value_total (w : ByteArray) (k : Nat) : ∃ r, spec_l01Value.f (k + 100) w = some r ∧ (r.2 = true → ∃ u : Nat, u < 10 ^ 13 ∧ r.1 = (u : Int) ∧ w = ⟨(Lib.decDigits u).toArray⟩) := by
  unfold spec_l01Value.f
  by_cases c : (w.size : Int) < 1
  · rw [if_pos c, spec_l01Value.j0, if_pos rfl]
    exact ⟨_, rfl, fun h => absurd h (by simp)⟩
  · rw [if_neg c, spec_l01Value.j0]
    by_cases c1 : (w.size : Int) > 13
    · rw [if_pos (by simpa using c1)]
      exact ⟨_, rfl, fun h => absurd h (by simp)⟩
    · rw [if_neg (by simpa using c1)]
      exact spec_value_loop w (by omega) w.size 0 0 (by omega) (by decide) (k + 99) (by omega)

theorem spec_value_dig (l : List UInt8) (hl : l.length ≤ 13) (hd : ∀ c ∈ l, isD c) (hv : (⟨(Lib.decDigits (valD 0 l)).toArray⟩ : ByteArray) = ⟨l.toArray⟩) (hb : valD 0 l < 10 ^ 13) : ∀ (d i : Nat), i + d = l.length → ∀ k, d + 30 < k →
    spec_l01Value.l0 k (⟨l.toArray⟩ : ByteArray) ((valD 0 (l.take i) : Nat) : Int) (i : Int) = some (((valD 0 l : Nat) : Int), true) := by
  intro d
  induction d with
  | zero =>
    intro i hi k hk
    obtain ⟨k, rfl⟩ : ∃ m, k = m + 1 := ⟨k - 1, by omega⟩
    rw [spec_l01Value.l0, if_neg (by rw [ba_size]; omega), List.take_of_length_le (by omega), dec_eq 12 _ (by omega) (by omega) k (by omega)]
    simp only [Option.bind_some]
    rw [hv, ba_beq]
  | succ d ih =>
    intro i hi k hk
    obtain ⟨k, rfl⟩ : ∃ m, k = m + 1 := ⟨k - 1, by omega⟩
    have hlt : i < l.length := by omega
    have hc := hd l[i] (List.getElem_mem hlt)
    unfold isD at hc
    have hbt : bt (⟨l.toArray⟩ : ByteArray) (i : Int) = (l[i].toNat : Int) := by rw [bt_nat _ i (by rw [ba_size]; exact hlt)]
    have hn : valD 0 (l.take (i + 1)) = valD 0 (l.take i) * 10 + (l[i].toNat - 48) := by
      rw [List.take_add_one, List.getElem?_eq_getElem hlt, valD_append]; rfl
    have hle : valD 0 (l.take (i + 1)) ≤ valD 0 l := by
      conv => rhs; rw [← List.take_append_drop (i + 1) l]
      rw [valD_append]; exact valD_ge _ _
    rw [spec_l01Value.l0, if_pos (by rw [ba_size]; omega), if_pos (by omega), hbt, if_neg (by omega), if_neg (by omega), wid (10 * _) (by omega) (by omega), wid (10 * _ + _) (by omega) (by omega), wid ((i : Int) + 1) (by omega) (by omega)]
    have := ih (i + 1) (by omega) k (by omega)
    rw [hn, show ((valD 0 (l.take i) * 10 + (l[i].toNat - 48) : Nat) : Int) = 10 * ((valD 0 (l.take i) : Nat) : Int) + ((l[i].toNat : Int) - 48) % 256 by omega, show ((i + 1 : Nat) : Int) = (i : Int) + 1 by omega] at this
    exact this

theorem spec_value_of (u k : Nat) (h : u < 10 ^ 13) : spec_l01Value.f (k + 100) (⟨(Lib.decDigits u).toArray⟩ : ByteArray) = some ((u : Int), true) := by
  obtain ⟨h1, h2, h3⟩ := digs_isD 17 u (by omega)
  have hl := digs_len 12 u (by omega)
  have := spec_value_dig (Lib.decDigits u) (by omega) h1 (by rw [h2]) (by rw [h2]; exact h) (Lib.decDigits u).length 0 (by omega) (k + 99) (by omega)
  unfold spec_l01Value.f
  rw [ba_size, if_neg (by omega), spec_l01Value.j0, if_neg (by simp; omega)]
  rw [h2] at this
  exact this

theorem ba_extract1 (w : ByteArray) : (w.extract 1 w.size).data.toList = w.data.toList.drop 1 := Lib.extract_to_end w 1

theorem ba_mk {w : ByteArray} {l : List UInt8} (h : w.data.toList = l) : w = ⟨l.toArray⟩ := by subst h; rfl

def mkB (l : List UInt8) : ByteArray := ⟨l.toArray⟩

theorem data_mkB (l : List UInt8) : (mkB l).data.toList = l := by simp [mkB]

/-- A text cut at every occurrence of a byte; cur: the piece that has begun. -/
def cutAt (c : UInt8) : List UInt8 → List UInt8 → List (List UInt8)
  | cur, [] => [cur]
  | cur, b :: r => if b = c then cur :: cutAt c [] r else cutAt c (cur ++ [b]) r

theorem pre_one (b c : UInt8) (l : List UInt8) : List.isPrefixOf [c] (b :: l) = (c == b) := by simp [List.isPrefixOf]

theorem ba_extract (w : ByteArray) (a b : Nat) : w.extract a b = mkB ((w.data.toList.drop a).take (b - a)) := ba_mk (Lib.extract_data w a b)

theorem spec_split_loop (c : UInt8) (s : ByteArray) (hs : s.size ≤ 1048576) : ∀ (d i f : Nat) (out : List ByteArray), i + d = s.size → f ≤ i → out.length ≤ i → ∀ k, d + 1 < k →
    spec_l01Split.l0 k s (c.toNat : Int) out (f : Int) (i : Int) = some (out ++ (cutAt c ((s.data.toList.drop f).take (i - f)) (s.data.toList.drop i)).map mkB) := by
  intro d
  induction d with
  | zero =>
    intro i f out hi hf ho k hk
    obtain ⟨k, rfl⟩ : ∃ m, k = m + 2 := ⟨k - 2, by omega⟩
    have hl := data_length s
    rw [spec_l01Split.l0, if_pos (by omega), if_pos (by omega), if_pos (by omega), if_pos (by omega), if_pos (by omega), wid ((i : Int) + 1) (by omega) (by omega), spec_l01Split.l0, if_neg (by omega), ba_extract]
    rw [show ((i : Int)).toNat = i by omega, show ((f : Int)).toNat = f by omega, List.drop_eq_nil_of_le (show s.data.toList.length ≤ i by omega)]
    simp [cutAt]
  | succ d ih =>
    intro i f out hi hf ho k hk
    obtain ⟨k, rfl⟩ : ∃ m, k = m + 1 := ⟨k - 1, by omega⟩
    have hl := data_length s
    have hlt : i < s.data.toList.length := by omega
    have hb := bt_nat s i (by omega)
    rw [spec_l01Split.l0, if_pos (by omega), if_neg (by omega), if_pos (by omega), if_pos (by omega), hb]
    rw [List.drop_eq_getElem_cons hlt]
    by_cases h : s.data.toList[i] = c
    · rw [if_pos (by rw [h]), if_pos (by omega), if_pos (by omega), if_pos (by omega), wid ((i : Int) + 1) (by omega) (by omega), ba_extract, show ((i : Int)).toNat = i by omega, show ((f : Int)).toNat = f by omega]
      have := ih (i + 1) (i + 1) (out ++ [mkB ((s.data.toList.drop f).take (i - f))]) (by omega) (by omega) (by simp; omega) k (by omega)
      rw [show ((i + 1 : Nat) : Int) = (i : Int) + 1 by omega] at this
      rw [this, cutAt, if_pos h]
      simp
    · rw [if_neg (by intro e; exact h (UInt8.toNat_inj.1 (by omega))), wid ((i : Int) + 1) (by omega) (by omega)]
      have := ih (i + 1) f out (by omega) (by omega) (by omega) k (by omega)
      rw [show ((i + 1 : Nat) : Int) = (i : Int) + 1 by omega] at this
      rw [this, cutAt, if_neg h]
      have e : (s.data.toList.drop f).take (i + 1 - f) = (s.data.toList.drop f).take (i - f) ++ [s.data.toList[i]] := by
        rw [show i + 1 - f = (i - f) + 1 by omega, List.take_add_one, List.getElem?_drop, show f + (i - f) = i by omega, List.getElem?_eq_getElem hlt]; rfl
      rw [e]

theorem spec_split (c : UInt8) (s : ByteArray) (hs : s.size ≤ 1048576) (k : Nat) (hk : 1048600 < k) : spec_l01Split.f k s (c.toNat : Int) = some ((cutAt c [] s.data.toList).map mkB) := by
  have := spec_split_loop c s hs s.size 0 0 [] (by omega) (by omega) (by simp) k (by omega)
  unfold spec_l01Split.f
  simpa using this
/-! numbers -/

def o8 (n : Nat) : UInt8 := UInt8.ofNat (48 + n)

theorem o8_nat (n : Nat) (h : n < 10) : (o8 n).toNat = 48 + n := u8_dig n h

theorem o8_ne (n : Nat) (c : UInt8) (h : n < 10) (hc : c.toNat < 48 ∨ 57 < c.toNat) : o8 n ≠ c := fun e => by
  have := o8_nat n h
  rw [e] at this; omega

theorem bt_mk (l : List UInt8) (i : Nat) (x : UInt8) (h : l[i]? = some x) : bt (mkB l) (i : Int) = (x.toNat : Int) := by
  obtain ⟨hi, e⟩ := List.getElem?_eq_some_iff.1 h
  have hz : (mkB l).size = l.length := ba_size l
  rw [bt_nat (mkB l) i (by rw [hz]; exact hi)]
  have : (mkB l).data.toList[i]'(by rw [data_mkB]; exact hi) = x := by
    rw [← e]; congr 1
  rw [this]

theorem size_mk (l : List UInt8) : (mkB l).size = l.length := ba_size l

def tail6 (m s : Nat) : List UInt8 := [o8 (m / 10), o8 (m % 10), 109, o8 (s / 10), o8 (s % 10), 115]

def angB (n : Nat) : List UInt8 := Lib.decDigits (n / 3600) ++ 100 :: tail6 (n / 60 % 60) (n % 60)

theorem angT_list (a : Int) : angT a = mkB (if a < 0 then 45 :: angB a.natAbs else angB a.natAbs) := by
  unfold angT
  have e1 : twoT (a.natAbs / 60 % 60) = ⟨([o8 (a.natAbs / 60 % 60 / 10), o8 (a.natAbs / 60 % 60 % 10)] : List UInt8).toArray⟩ := rfl
  have e2 : twoT (a.natAbs % 60) = ⟨([o8 (a.natAbs % 60 / 10), o8 (a.natAbs % 60 % 10)] : List UInt8).toArray⟩ := rfl
  rw [e1, e2, show (⟨#[100]⟩ : ByteArray) = ⟨([100] : List UInt8).toArray⟩ from rfl, show (⟨#[109]⟩ : ByteArray) = ⟨([109] : List UInt8).toArray⟩ from rfl, show (⟨#[115]⟩ : ByteArray) = ⟨([115] : List UInt8).toArray⟩ from rfl]
  by_cases c : a < 0
  · rw [if_pos c, if_pos c, show (⟨#[45]⟩ : ByteArray) = ⟨([45] : List UInt8).toArray⟩ from rfl]
    simp only [ba_append]
    unfold mkB angB tail6
    simp
  · rw [if_neg c, if_neg c, show (⟨#[]⟩ : ByteArray) = ⟨([] : List UInt8).toArray⟩ from rfl]
    simp only [ba_append]
    unfold mkB angB tail6
    simp

theorem angB_head (n : Nat) (h : n < 3600 * 1000) : ∃ c r, angB n = c :: r ∧ c ≠ 45 := by
  obtain ⟨d1, d2, d3⟩ := digs_isD 2 (n / 3600) (by omega)
  unfold angB
  cases e : Lib.decDigits (n / 3600) with
  | nil => rw [e] at d3; simp at d3
  | cons c r =>
    refine ⟨c, _, rfl, ?_⟩
    have := d1 c (by rw [e]; simp)
    unfold isD at this
    intro e2
    rw [e2] at this
    have : (45 : UInt8).toNat = 45 := rfl
    omega

theorem cutAt_pre (c : UInt8) : ∀ (l cur r : List UInt8), (∀ x ∈ l, x ≠ c) → cutAt c cur (l ++ r) = cutAt c (cur ++ l) r
  | [], cur, r, _ => by simp
  | b :: l, cur, r, h => by
    rw [List.cons_append, cutAt, if_neg (h b (by simp)), cutAt_pre c l (cur ++ [b]) r (fun x hx => h x (by simp [hx]))]
    simp

theorem index_pre (c : UInt8) : ∀ (l r : List UInt8), (∀ x ∈ l, x ≠ c) → Lib.index (l ++ c :: r) [c] = (l.length : Int)
  | [], r, _ => by rw [List.nil_append, Lib.index, pre_one, if_pos (beq_self_eq_true c)]; rfl
  | b :: l, r, h => by
    have hb : (c == b) = false := beq_eq_false_iff_ne.2 (fun e => h b (by simp) e.symm)
    have ih := index_pre c l r (fun x hx => h x (by simp [hx]))
    rw [List.cons_append, Lib.index, pre_one, hb, if_neg (by simp), ih, if_neg (by simp), List.length_cons]
    omega

theorem digs_ne (u : Nat) (h : u < 1000) (c : UInt8) (hc : c.toNat < 48 ∨ 57 < c.toNat) : ∀ x ∈ Lib.decDigits u, x ≠ c := fun x hx e => by
  have := (digs_isD 2 u (by omega)).1 x hx
  unfold isD at this
  rw [e] at this; omega

theorem tail6_ne (m s : Nat) (hm : m < 60) (hs : s < 60) : ∀ x ∈ tail6 m s, x ≠ 100 := by
  intro x hx
  unfold tail6 at hx
  simp only [List.mem_cons, List.not_mem_nil, or_false] at hx
  rcases hx with rfl | rfl | rfl | rfl | rfl | rfl
  · exact o8_ne _ _ (by omega) (.inr (by decide))
  · exact o8_ne _ _ (by omega) (.inr (by decide))
  · decide
  · exact o8_ne _ _ (by omega) (.inr (by decide))
  · exact o8_ne _ _ (by omega) (.inr (by decide))
  · decide

theorem cut_angB (n : Nat) (h : n < 3600 * 1000) : cutAt 100 [] (angB n) = [Lib.decDigits (n / 3600), tail6 (n / 60 % 60) (n % 60)] := by
  unfold angB
  rw [cutAt_pre 100 _ [] _ (digs_ne (n / 3600) (by omega) 100 (.inr (by decide))), cutAt, if_pos rfl, List.nil_append]
  have := cutAt_pre 100 (tail6 (n / 60 % 60) (n % 60)) [] [] (tail6_ne _ _ (by omega) (by omega))
  rw [List.append_nil, List.nil_append] at this
  rw [this]; rfl

def angAns (s : ByteArray) (r : Int × Int) : Prop := r = (0, 6) ∨ ∃ a : Int, (-648000 ≤ a ∧ a ≤ 1296000) ∧ r = (a, 0) ∧ s = angT a

theorem sa_end (s : ByteArray) (W : List ByteArray) (x5 x9 : Int) (h5 : x5 = 1 ∨ x5 = -1) (h0 : 0 ≤ x9) (h1 : x9 ≤ 100000000) (k : Nat) : ∃ r, spec_ReadAngle.l0 (k + 11) s x5 W x9 2 = some r ∧ angAns s r ∧ (-648000 ≤ x5 * x9 → x5 * x9 ≤ 1296000 → s = angT (x5 * x9) → r = (x5 * x9, 0)) := by
  have hx : wrap64 (x5 * x9) = x5 * x9 := by
    rcases h5 with rfl | rfl <;> exact wid _ (by omega) (by omega)
  rw [spec_ReadAngle.l0, if_neg (by omega), hx]
  generalize x5 * x9 = a
  rw [spec_in_eq]
  simp only [Option.bind_some]
  by_cases c : -648000 ≤ a ∧ a ≤ 1296000
  · rw [if_pos (decide_eq_true c), l03Text_eq k a c.1 c.2]
    simp only [Option.bind_some]
    by_cases e : (angT a).toList = s.toList
    · rw [if_pos e]
      exact ⟨_, rfl, .inr ⟨a, c, rfl, (ba_eq (beq_iff_eq.2 e)).symm⟩, fun _ _ _ => rfl⟩
    · rw [if_neg e]
      exact ⟨_, rfl, .inl rfl, fun _ _ h => absurd (by rw [h]) e⟩
  · rw [if_neg (by simpa using c)]
    exact ⟨_, rfl, .inl rfl, fun h1 h2 _ => absurd ⟨h1, h2⟩ c⟩

def dig2at (R : ByteArray) (i : Nat) : Prop := 48 ≤ bt R (3 * (i : Int)) ∧ bt R (3 * (i : Int)) ≤ 57 ∧ 48 ≤ bt R (3 * (i : Int) + 1) ∧ bt R (3 * (i : Int) + 1) ≤ 57

theorem sa_step (s D R : ByteArray) (x5 x9 : Int) (hR : R.size = 6) (h0 : 0 ≤ x9) (h1 : x9 ≤ 10000000) (i : Nat) (hi : i < 2) (k : Nat) :
    (¬ dig2at R i → spec_ReadAngle.l0 (k + 2) s x5 [D, R] x9 (i : Int) = some (0, 6)) ∧
    (dig2at R i → spec_ReadAngle.l0 (k + 2) s x5 [D, R] x9 (i : Int) = spec_ReadAngle.l0 k s x5 [D, R] (x9 + (if i = 0 then 60 else 1) * (10 * (bt R (3 * (i : Int)) - 48) + (bt R (3 * (i : Int) + 1) - 48))) ((i + 1 : Nat) : Int)) := by
  have e1 : rdOf ByteArray.empty [D, R] 1 = R := rfl
  have r0 := bt_range R (3 * (i : Int))
  have r1 := bt_range R (3 * (i : Int) + 1)
  have w3 : wrap64 (3 * (i : Int)) = 3 * (i : Int) := wid _ (by omega) (by omega)
  have w4 : wrap64 (3 * (i : Int) + 1) = 3 * (i : Int) + 1 := wid _ (by omega) (by omega)
  have wi : wrap64 ((i : Int) + 1) = ((i + 1 : Nat) : Int) := wid _ (by omega) (by omega)
  unfold dig2at
  rw [spec_ReadAngle.l0, e1, w3, w4, if_pos (by omega), if_pos (by simp), if_pos (by omega), if_pos (by omega), if_pos (by omega), if_pos (by omega)]
  generalize bt R (3 * (i : Int)) = p at r0 ⊢
  generalize bt R (3 * (i : Int) + 1) = q at r1 ⊢
  by_cases c1 : p < 48
  · rw [if_pos c1, spec_ReadAngle.j5, if_pos rfl]; exact ⟨fun _ => rfl, fun h => by omega⟩
  · rw [if_neg c1]
    by_cases c2 : p > 57
    · rw [if_pos c2, spec_ReadAngle.j5, if_pos rfl]; exact ⟨fun _ => rfl, fun h => by omega⟩
    · rw [if_neg c2]
      by_cases c3 : q < 48
      · rw [if_pos c3, spec_ReadAngle.j5, if_pos rfl]; exact ⟨fun _ => rfl, fun h => by omega⟩
      · rw [if_neg c3, spec_ReadAngle.j5]
        by_cases c4 : q > 57
        · rw [if_pos (by simpa using c4)]; exact ⟨fun _ => rfl, fun h => by omega⟩
        · rw [if_neg (by simpa using c4)]
          refine ⟨fun h => absurd ⟨by omega, by omega, by omega, by omega⟩ h, fun _ => ?_⟩
          by_cases c5 : i = 0
          · subst c5
            rw [if_pos (show ((0 : Nat) : Int) = 0 from rfl), if_pos rfl, wi, wid _ (by omega) (by omega), show x9 + 60 * (10 * ((p - 48) % 256) + (q - 48) % 256) = x9 + 60 * (10 * (p - 48) + (q - 48)) by omega]
          · rw [if_neg (by omega), if_neg c5, wi, wid _ (by omega) (by omega), show x9 + (10 * ((p - 48) % 256) + (q - 48) % 256) = x9 + 1 * (10 * (p - 48) + (q - 48)) by omega]

theorem sa_total (s D R : ByteArray) (x5 x9 : Int) (h5 : x5 = 1 ∨ x5 = -1) (hR : R.size = 6) (h0 : 0 ≤ x9) (h1 : x9 ≤ 2000000) (k : Nat) :
    ∃ r, spec_ReadAngle.l0 (k + 15) s x5 [D, R] x9 0 = some r ∧ angAns s r := by
  obtain ⟨n0, y0⟩ := sa_step s D R x5 x9 hR h0 (by omega) 0 (by omega) (k + 13)
  by_cases c0 : dig2at R 0
  · have e0 := y0 c0
    unfold dig2at at c0
    generalize hX : x9 + (if (0 : Nat) = 0 then (60 : Int) else 1) * (10 * (bt R (3 * ((0 : Nat) : Int)) - 48) + (bt R (3 * ((0 : Nat) : Int) + 1) - 48)) = X at e0
    rw [if_pos rfl] at hX
    obtain ⟨n1, y1⟩ := sa_step s D R x5 X hR (by omega) (by omega) 1 (by omega) (k + 11)
    rw [show ((0 : Nat) : Int) = 0 from rfl] at e0
    rw [e0]
    by_cases c1 : dig2at R 1
    · have e1 := y1 c1
      unfold dig2at at c1
      generalize hY : X + (if (1 : Nat) = 0 then (60 : Int) else 1) * (10 * (bt R (3 * ((1 : Nat) : Int)) - 48) + (bt R (3 * ((1 : Nat) : Int) + 1) - 48)) = Y at e1
      rw [if_neg (by omega)] at hY
      obtain ⟨r, hr, ha, _⟩ := sa_end s [D, R] x5 Y h5 (by omega) (by omega) k
      exact ⟨r, by rw [← hr]; exact e1, ha⟩
    · exact ⟨_, n1 c1, .inl rfl⟩
  · exact ⟨_, n0 c0, .inl rfl⟩

theorem tail_bts (m t : Nat) (hm : m < 60) (ht : t < 60) : bt (mkB (tail6 m t)) 0 = 48 + ((m / 10 : Nat) : Int) ∧ bt (mkB (tail6 m t)) 1 = 48 + ((m % 10 : Nat) : Int) ∧ bt (mkB (tail6 m t)) 3 = 48 + ((t / 10 : Nat) : Int) ∧ bt (mkB (tail6 m t)) 4 = 48 + ((t % 10 : Nat) : Int) := by
  have a0 := bt_mk (tail6 m t) 0 _ rfl
  have a1 := bt_mk (tail6 m t) 1 _ rfl
  have a3 := bt_mk (tail6 m t) 3 _ rfl
  have a4 := bt_mk (tail6 m t) 4 _ rfl
  rw [o8_nat _ (by omega)] at a0 a1 a3 a4
  exact ⟨a0.trans (by omega), a1.trans (by omega), a3.trans (by omega), a4.trans (by omega)⟩

theorem sa_of (D : ByteArray) (a : Int) (x5 x9 : Int) (h5 : x5 = 1 ∨ x5 = -1) (h0 : 0 ≤ x9) (h1 : x9 ≤ 2000000) (m t : Nat) (hm : m < 60) (ht : t < 60) (ha : a = x5 * (x9 + 60 * m + t)) (hb : -648000 ≤ a ∧ a ≤ 1296000) (k : Nat) :
    spec_ReadAngle.l0 (k + 15) (angT a) x5 [D, mkB (tail6 m t)] x9 0 = some (a, 0) := by
  obtain ⟨b0, b1, b3, b4⟩ := tail_bts m t hm ht
  have hR : (mkB (tail6 m t)).size = 6 := size_mk _
  generalize mkB (tail6 m t) = R at b0 b1 b3 b4 hR
  have c0 : dig2at R 0 := by
    unfold dig2at
    rw [show (3 : Int) * ((0 : Nat) : Int) = 0 by omega, show (0 : Int) + 1 = 1 by omega, b0, b1]; omega
  have c1 : dig2at R 1 := by
    unfold dig2at
    rw [show (3 : Int) * ((1 : Nat) : Int) = 3 by omega, show (3 : Int) + 1 = 4 by omega, b3, b4]; omega
  have e0 := (sa_step (angT a) D R x5 x9 hR h0 (by omega) 0 (by omega) (k + 13)).2 c0
  rw [if_pos rfl, show (3 : Int) * ((0 : Nat) : Int) = 0 by omega, show (0 : Int) + 1 = 1 by omega, b0, b1, show x9 + 60 * (10 * (48 + ((m / 10 : Nat) : Int) - 48) + (48 + ((m % 10 : Nat) : Int) - 48)) = x9 + 60 * m by omega, show ((0 : Nat) : Int) = 0 from rfl] at e0
  have e1 := (sa_step (angT a) D R x5 (x9 + 60 * m) hR (by omega) (by omega) 1 (by omega) (k + 11)).2 c1
  rw [if_neg (by omega), show (3 : Int) * ((1 : Nat) : Int) = 3 by omega, show (3 : Int) + 1 = 4 by omega, b3, b4, show x9 + 60 * (m : Int) + 1 * (10 * (48 + ((t / 10 : Nat) : Int) - 48) + (48 + ((t % 10 : Nat) : Int) - 48)) = x9 + 60 * m + t by omega] at e1
  obtain ⟨r, hr, _, hq⟩ := sa_end (angT a) [D, R] x5 (x9 + 60 * m + t) h5 (by omega) (by omega) k
  rw [← ha] at hq
  have hrr := hq hb.1 hb.2 rfl
  rw [e0]
  refine e1.trans ?_
  rw [← hrr]
  exact hr

theorem sj1_total (s x4 : ByteArray) (hx : x4.size ≤ 1048576) (x5 : Int) (h5 : x5 = 1 ∨ x5 = -1) (k : Nat) (hk : 1049000 < k) : ∃ r, spec_ReadAngle.j1 k s x4 x5 = some r ∧ angAns s r := by
  obtain ⟨k, rfl⟩ : ∃ m, k = m + 203 := ⟨k - 203, by omega⟩
  have hsp := spec_split 100 x4 hx (k + 202) (by omega)
  rw [show (((100 : UInt8)).toNat : Int) = 100 from rfl] at hsp
  rw [spec_ReadAngle.j1, hsp]
  simp only [Option.bind_some]
  generalize (cutAt 100 [] x4.data.toList).map mkB = W
  by_cases c : (W.length : Int) = 2
  · rw [if_pos c, if_pos (by omega)]
    obtain ⟨D, R, rfl⟩ : ∃ D R, W = [D, R] := by
      match W, c with
      | [D, R], _ => exact ⟨D, R, rfl⟩
      | [], c => simp at c
      | [_], c => simp at c
      | _ :: _ :: _ :: _, c => simp only [List.length_cons] at c; omega
    rw [show rdOf ByteArray.empty [D, R] 1 = R from rfl, spec_ReadAngle.j2]
    by_cases c6 : (R.size : Int) = 6
    · rw [if_neg (by simpa using c6), if_pos (by simp), show rdOf ByteArray.empty [D, R] 0 = D from rfl]
      obtain ⟨⟨v, ok⟩, hv, hq⟩ := spec_value_total D (k + 101)
      rw [show k + 201 = k + 101 + 100 by omega, hv]
      simp only [Option.bind_some]
      by_cases cok : ok = true
      · obtain ⟨u, hu, e1, _⟩ := hq cok
        simp only at e1
        subst e1
        rw [if_pos cok, show k + 101 + 100 = k + 200 + 1 by omega, spec_ReadAngle.j3]
        by_cases c3 : (u : Int) > 360
        · rw [if_pos (by simpa using c3)]; exact ⟨_, rfl, .inl rfl⟩
        · rw [if_neg (by simpa using c3), wid _ (by omega) (by omega)]
          exact sa_total s D R x5 ((u : Int) * 3600) h5 (by omega) (by omega) (by omega) (k + 185)
      · rw [if_neg cok, show k + 101 + 100 = k + 200 + 1 by omega, spec_ReadAngle.j3, if_pos rfl]; exact ⟨_, rfl, .inl rfl⟩
    · rw [if_pos (by simpa using c6)]; exact ⟨_, rfl, .inl rfl⟩
  · rw [if_neg c, spec_ReadAngle.j2, if_pos rfl]; exact ⟨_, rfl, .inl rfl⟩

theorem sj1_of (a : Int) (hb : -648000 ≤ a ∧ a ≤ 1296000) (x5 : Int) (h5 : x5 = 1 ∨ x5 = -1) (ha : a = x5 * a.natAbs) (k : Nat) (hk : 1049000 < k) : spec_ReadAngle.j1 k (angT a) (mkB (angB a.natAbs)) x5 = some (a, 0) := by
  obtain ⟨k, rfl⟩ : ∃ m, k = m + 203 := ⟨k - 203, by omega⟩
  generalize hn : a.natAbs = n at ha
  have hl : (mkB (angB n)).size ≤ 1048576 := by
    rw [size_mk]; unfold angB tail6
    have := digs_len 2 (n / 3600) (by omega)
    rw [List.length_append]; simp only [List.length_cons, List.length_nil]; omega
  have hsp := spec_split 100 (mkB (angB n)) hl (k + 202) (by omega)
  rw [show (((100 : UInt8)).toNat : Int) = 100 from rfl, data_mkB, cut_angB n (by omega)] at hsp
  rw [spec_ReadAngle.j1, hsp]
  simp only [Option.bind_some, List.map_cons, List.map_nil]
  have h6 : (mkB (tail6 (n / 60 % 60) (n % 60))).size = 6 := size_mk _
  rw [if_pos (by simp), if_pos (by simp), show rdOf ByteArray.empty [mkB (Lib.decDigits (n / 3600)), mkB (tail6 (n / 60 % 60) (n % 60))] 1 = mkB (tail6 (n / 60 % 60) (n % 60)) from rfl, spec_ReadAngle.j2, if_neg (by rw [h6]; simp), if_pos (by simp), show rdOf ByteArray.empty [mkB (Lib.decDigits (n / 3600)), mkB (tail6 (n / 60 % 60) (n % 60))] 0 = mkB (Lib.decDigits (n / 3600)) from rfl]
  have hv := spec_value_of (n / 3600) (k + 101) (by omega)
  rw [show k + 201 = k + 101 + 100 by omega, show mkB (Lib.decDigits (n / 3600)) = ⟨(Lib.decDigits (n / 3600)).toArray⟩ from rfl, hv]
  simp only [Option.bind_some, if_true]
  rw [show k + 101 + 100 = k + 200 + 1 by omega, spec_ReadAngle.j3, if_neg (by simp; omega), wid _ (by omega) (by omega)]
  exact sa_of _ a x5 (((n / 3600 : Nat) : Int) * 3600) h5 (by omega) (by omega) (n / 60 % 60) (n % 60) (by omega) (by omega) (by
    rw [show ((n / 3600 : Nat) : Int) * 3600 + 60 * ((n / 60 % 60 : Nat) : Int) + ((n % 60 : Nat) : Int) = (n : Int) by omega]; exact ha) hb (k + 185)

theorem spec_ReadAngle_total (s : ByteArray) (hs : s.size ≤ 1048576) (k : Nat) (hk : 1049100 < k) : ∃ r, spec_ReadAngle.f k s = some r ∧ angAns s r := by
  obtain ⟨k, rfl⟩ : ∃ m, k = m + 1 := ⟨k - 1, by omega⟩
  unfold spec_ReadAngle.f
  by_cases c : (s.size : Int) > 0
  · rw [if_pos c, if_pos c, spec_ReadAngle.j0]
    by_cases c1 : (bt s 0 == 45) = true
    · rw [if_pos c1, if_pos (by omega)]
      have e : (s.extract 1 s.size).size ≤ 1048576 := by
        rw [← data_length, ba_extract1, List.length_drop, data_length]; omega
      exact sj1_total s _ e (-1) (.inr rfl) k (by omega)
    · rw [if_neg c1]
      exact sj1_total s s hs 1 (.inl rfl) k (by omega)
  · rw [if_neg c, spec_ReadAngle.j0, if_neg (by simp)]
    exact sj1_total s s hs 1 (.inl rfl) k (by omega)

theorem spec_ReadAngle_of (a : Int) (hb : -648000 ≤ a ∧ a ≤ 1296000) (k : Nat) (hk : 1049100 < k) : spec_ReadAngle.f k (angT a) = some (a, 0) := by
  obtain ⟨k, rfl⟩ : ∃ m, k = m + 1 := ⟨k - 1, by omega⟩
  have hl := angT_list a
  obtain ⟨c0, r0, eh, hne⟩ := angB_head a.natAbs (by omega)
  unfold spec_ReadAngle.f
  by_cases c : a < 0
  · have e := sj1_of a hb (-1) (.inr rfl) (by omega) k (by omega)
    rw [if_pos c] at hl
    have hb0 : bt (angT a) 0 = 45 := by rw [hl]; exact bt_mk _ 0 45 rfl
    have hz : (angT a).size = (angB a.natAbs).length + 1 := by rw [hl, size_mk]; rfl
    have hx : (angT a).extract 1 (angT a).size = mkB (angB a.natAbs) := ba_mk (by rw [ba_extract1, hl, data_mkB]; rfl)
    rw [if_pos (by omega), if_pos (by omega), spec_ReadAngle.j0, hb0, if_pos (by decide), if_pos (by omega), hx]
    exact e
  · have e := sj1_of a hb 1 (.inl rfl) (by omega) k (by omega)
    rw [if_neg c] at hl
    have hb0 : bt (angT a) 0 = (c0.toNat : Int) := by rw [hl]; exact bt_mk _ 0 c0 (by rw [eh]; rfl)
    have hz : (angT a).size = (angB a.natAbs).length := by rw [hl, size_mk]
    have hp : 0 < (angB a.natAbs).length := by rw [eh]; simp
    have hn45 : c0.toNat ≠ 45 := fun x => hne (UInt8.toNat_inj.1 x)
    rw [if_pos (by omega), if_pos (by omega), spec_ReadAngle.j0, hb0, if_neg (by simp; omega)]
    rw [← hl] at e
    exact e
/-! impl -/

theorem ia_t (k : Nat) (s : ByteArray) (a : Int) : ∃ r, impl_ReadAngle.t (k + 30) s a = some r ∧ angAns s r ∧ ((-648000 ≤ a ∧ a ≤ 1296000) → s = angT a → r = (a, 0)) := by
  unfold impl_ReadAngle.t
  rw [impl_AngleText_eq k a]
  simp only [Option.bind_some]
  by_cases c : -648000 ≤ a ∧ a ≤ 1296000
  · rw [if_pos c]
    simp only [if_true]
    by_cases e : (angT a).toList = s.toList
    · rw [if_pos e]
      exact ⟨_, rfl, .inr ⟨a, c, rfl, (ba_eq (beq_iff_eq.2 e)).symm⟩, fun _ _ => rfl⟩
    · rw [if_neg e]
      exact ⟨_, rfl, .inl rfl, fun _ h => absurd (by rw [h]) e⟩
  · rw [if_neg c, if_neg (by simp)]
    exact ⟨_, rfl, .inl rfl, fun h => absurd h c⟩

theorem ia_p_total (k : Nat) (s D R : ByteArray) (neg : Bool) : ∃ r, impl_ReadAngle.p (k + 30) s D R neg = some r ∧ angAns s r := by
  unfold impl_ReadAngle.p
  obtain ⟨⟨d, ok⟩, hv, _⟩ := readDec_total (k + 30) D
  rw [hv]
  simp only [Option.bind_some]
  by_cases c : ok = true
  · rw [if_pos c, impl_in_eq]
    simp only [Option.bind_some]
    by_cases c2 : decide (0 ≤ d ∧ d ≤ 360) = true
    · rw [if_pos c2]
      by_cases c3 : (R.size : Int) = 6
      · rw [if_pos c3]
        by_cases c4 : neg = true
        · rw [if_pos c4]
          obtain ⟨r, h1, h2, _⟩ := ia_t k s (wrap64 (-(impl_ReadAngle.v d R)))
          exact ⟨r, h1, h2⟩
        · rw [if_neg c4]
          obtain ⟨r, h1, h2, _⟩ := ia_t k s (impl_ReadAngle.v d R)
          exact ⟨r, h1, h2⟩
      · rw [if_neg c3]; exact ⟨_, rfl, .inl rfl⟩
    · rw [if_neg c2]; exact ⟨_, rfl, .inl rfl⟩
  · rw [if_neg c]; exact ⟨_, rfl, .inl rfl⟩

theorem impl_ReadAngle_total (s : ByteArray) (hs : s.size ≤ 1048576) (k : Nat) : ∃ r, impl_ReadAngle.f (k + 30) s = some r ∧ angAns s r := by
  unfold impl_ReadAngle.f
  rw [if_pos (by omega)]
  exact ia_p_total k s _ _ _

theorem v_of (d m t : Nat) (hd : d ≤ 360) (hm : m < 60) (ht : t < 60) : impl_ReadAngle.v (d : Int) (mkB (tail6 m t)) = (d : Int) * 3600 + 60 * m + t := by
  obtain ⟨b0, b1, b3, b4⟩ := tail_bts m t hm ht
  unfold impl_ReadAngle.v
  rw [b0, b1, b3, b4]
  have w : ∀ (n : Nat), n < 10 → wrap64 (wrap64 (48 + (n : Int)) - 48) = (n : Int) := fun n h => by rw [wid (48 + (n : Int)) (by omega) (by omega), wid _ (by omega) (by omega)]; omega
  rw [w (m / 10) (by omega), w (m % 10) (by omega), w (t / 10) (by omega), w (t % 10) (by omega), wid ((d : Int) * 3600) (by omega) (by omega), wid (10 * ((m / 10 : Nat) : Int)) (by omega) (by omega), wid (10 * ((m / 10 : Nat) : Int) + _) (by omega) (by omega), wid ((10 * ((m / 10 : Nat) : Int) + ((m % 10 : Nat) : Int)) * 60) (by omega) (by omega), wid ((d : Int) * 3600 + _) (by omega) (by omega), wid (10 * ((t / 10 : Nat) : Int)) (by omega) (by omega), wid ((d : Int) * 3600 + _ + _) (by omega) (by omega), wid _ (by omega) (by omega)]
  omega

theorem trim_cut (a : Int) (hb : -648000 ≤ a ∧ a ≤ 1296000) : Lib.hasPrefix (angT a).data.toList [45] = decide (a < 0) ∧ Lib.cut (Lib.trimPrefix (angT a).data.toList [45]) [100] = (Lib.decDigits (a.natAbs / 3600), tail6 (a.natAbs / 60 % 60) (a.natAbs % 60), true) := by
  obtain ⟨c0, r0, eh, hne⟩ := angB_head a.natAbs (by omega)
  have hc : Lib.cut (angB a.natAbs) [100] = (Lib.decDigits (a.natAbs / 3600), tail6 (a.natAbs / 60 % 60) (a.natAbs % 60), true) := by
    have hi := index_pre 100 (Lib.decDigits (a.natAbs / 3600)) (tail6 (a.natAbs / 60 % 60) (a.natAbs % 60)) (digs_ne _ (by omega) 100 (.inr (by decide)))
    unfold Lib.cut angB
    rw [hi, if_pos (by omega), show (((Lib.decDigits (a.natAbs / 3600)).length : Int)).toNat = (Lib.decDigits (a.natAbs / 3600)).length by omega, List.take_left]
    simp only [List.length_cons, List.length_nil, Nat.zero_add]
    rw [show Lib.decDigits (a.natAbs / 3600) ++ 100 :: tail6 (a.natAbs / 60 % 60) (a.natAbs % 60) = (Lib.decDigits (a.natAbs / 3600) ++ [100]) ++ tail6 (a.natAbs / 60 % 60) (a.natAbs % 60) by simp]
    rw [List.drop_left' (by simp)]
  rw [angT_list a, data_mkB]
  by_cases c : a < 0
  · have hp : Lib.hasPrefix (45 :: angB a.natAbs) [45] = true := by unfold Lib.hasPrefix; rw [pre_one]; rfl
    rw [if_pos c, decide_eq_true c]
    unfold Lib.trimPrefix
    rw [hp, if_pos rfl]
    exact ⟨rfl, hc⟩
  · have hp : Lib.hasPrefix (angB a.natAbs) [45] = false := by unfold Lib.hasPrefix; rw [eh, pre_one]; exact beq_eq_false_iff_ne.2 (fun e => hne e.symm)
    rw [if_neg c, decide_eq_false c]
    unfold Lib.trimPrefix
    rw [hp, if_neg (by simp)]
    exact ⟨rfl, hc⟩

theorem ia_p_of (k : Nat) (a : Int) (hb : -648000 ≤ a ∧ a ≤ 1296000) (D R : ByteArray) (d m t : Nat) (hd : d ≤ 360) (hm : m < 60) (ht : t < 60) (hD : D = encI (d : Int)) (hR : R = mkB (tail6 m t)) (neg : Bool) (hn : neg = decide (a < 0)) (ha : (a.natAbs : Int) = (d : Int) * 3600 + 60 * m + t) :
    impl_ReadAngle.p (k + 30) (angT a) D R neg = some (a, 0) := by
  unfold impl_ReadAngle.p
  rw [hD, readDec_of (k + 30) (d : Int) (by omega) (by omega)]
  simp only [Option.bind_some, if_true]
  rw [impl_in_eq, decide_eq_true (by omega)]
  simp only [Option.bind_some, if_true]
  rw [hR, if_pos (by rw [size_mk]; rfl), v_of d m t hd hm ht, hn]
  by_cases c : a < 0
  · rw [if_pos (decide_eq_true c), wid _ (by omega) (by omega)]
    obtain ⟨r, h1, _, h3⟩ := ia_t k (angT a) (-((d : Int) * 3600 + 60 * m + t))
    rw [h1, h3 (by omega) (by congr 1; omega)]
    congr 2; omega
  · rw [if_neg (by simpa using c)]
    obtain ⟨r, h1, _, h3⟩ := ia_t k (angT a) ((d : Int) * 3600 + 60 * m + t)
    rw [h1, h3 (by omega) (by congr 1; omega)]
    congr 2; omega

theorem angT_small (a : Int) (hb : -648000 ≤ a ∧ a ≤ 1296000) : (angT a).size ≤ 20 := by
  have := digs_len 2 (a.natAbs / 3600) (by omega)
  rw [angT_list a, size_mk]
  have h6 : ∀ m t, (tail6 m t).length = 6 := fun _ _ => rfl
  unfold angB
  split
  · rw [List.length_cons, List.length_append, List.length_cons, h6]; omega
  · rw [List.length_append, List.length_cons, h6]; omega

theorem impl_ReadAngle_of (a : Int) (hb : -648000 ≤ a ∧ a ≤ 1296000) (k : Nat) : impl_ReadAngle.f (k + 30) (angT a) = some (a, 0) := by
  have hz := angT_small a hb
  obtain ⟨h1, h2⟩ := trim_cut a hb
  unfold impl_ReadAngle.f
  rw [if_pos (by omega), h1, h2]
  exact ia_p_of k a hb _ _ (a.natAbs / 3600) (a.natAbs / 60 % 60) (a.natAbs % 60) (by omega) (by omega) (by omega) (by unfold encI; rw [itoa_nat]) rfl _ rfl (by omega)

theorem angle_read_same (s : ByteArray) (hs : s.size ≤ 1048576) (k j : Nat) (hk : 1049100 < k) : ∃ r, spec_ReadAngle.f k s = some r ∧ impl_ReadAngle.f (j + 30) s = some r ∧ angAns s r := by
  obtain ⟨r, e1, a1⟩ := spec_ReadAngle_total s hs k hk
  obtain ⟨q, e2, a2⟩ := impl_ReadAngle_total s hs j
  refine ⟨r, e1, ?_, a1⟩
  rcases a1 with rfl | ⟨a, hb, rfl, rfl⟩
  · rcases a2 with rfl | ⟨a, hb, rfl, rfl⟩
    · exact e2
    · rw [spec_ReadAngle_of a hb k hk] at e1
      simp at e1
  · exact impl_ReadAngle_of a hb j

abbrev val3 (a f t : Int) : Prop := ((-1000000000000 ≤ a ∧ a ≤ 1000000000000) ∧ (-1000000000000 ≤ f ∧ f ≤ 1000000000000)) ∧ (-1000000000000 ≤ t ∧ t ≤ 1000000000000)

theorem impl_lies_eq (a f t : Int) : impl_LiesOnWay.f a f t = some (if val3 a f t then (decide ((a - f) % 1296000 ≤ (t - f) % 1296000), 0) else (false, 2)) := by
  unfold impl_LiesOnWay.f impl_liesOnWay.f
  rw [impl_isValue_eq, impl_isValue_eq, impl_isValue_eq]
  by_cases h1 : -1000000000000 ≤ a ∧ a ≤ 1000000000000
  · by_cases h2 : -1000000000000 ≤ f ∧ f ≤ 1000000000000
    · by_cases h3 : -1000000000000 ≤ t ∧ t ≤ 1000000000000
      · rw [wid (a - f) (by omega) (by omega), wid (t - f) (by omega) (by omega), impl_plain_eq _ (by omega) (by omega), impl_plain_eq _ (by omega) (by omega)]; simp [h1, h2, h3]
      · simp [h1, h2, h3]
    · simp [h1, h2]
  · simp [h1]

theorem spec_lies_eq (k : Nat) (a f t : Int) : spec_LiesOnWay.f (k + 1) a f t = some (if val3 a f t then (decide ((a - f) % 1296000 ≤ (t - f) % 1296000), 0) else (false, 2)) := by
  unfold spec_LiesOnWay.f
  simp only [spec_LiesOnWay.j0]
  rw [spec_is_eq, spec_is_eq, spec_is_eq]
  by_cases h1 : -1000000000000 ≤ a ∧ a ≤ 1000000000000
  · by_cases h2 : -1000000000000 ≤ f ∧ f ≤ 1000000000000
    · by_cases h3 : -1000000000000 ≤ t ∧ t ≤ 1000000000000
      · rw [wid (a - f) (by omega) (by omega), wid (t - f) (by omega) (by omega), spec_plain_eq, spec_plain_eq]; simp [h1, h2, h3]
      · simp [h1, h2, h3]
    · simp [h1, h2]
  · simp [h1]

theorem damage_eq {l : List Int} {t s : Int} (h : src l t s) (T : ByteArray) (hT : T.size ≤ 100000) : ∃ U t' s', spec_l01Damage.f l t s T = some (U, t', s') ∧ src l t' s' ∧ U.size ≤ T.size + 1 := by
  obtain ⟨v1, t1, s1, e1, h1, b1, c1⟩ := next_eq h ((T.size : Int) + 1) (by omega)
  obtain ⟨v2, t2, s2, e2, h2, b2, c2⟩ := next_eq h1 8 (by omega)
  obtain ⟨v3, t3, s3, e3, h3, b3, c3⟩ := next_eq h2 8 (by omega)
  have hz : ∀ a b : Nat, (T.extract a b).size ≤ T.size := fun a b => by
    rw [← data_length, ← data_length, Lib.extract_data, List.length_take, List.length_drop]; omega
  have hv : v1 ≤ (T.size : Int) := by omega
  unfold spec_l01Damage.f
  rw [wid ((T.size : Int) + 1) (by omega) (by omega), e1]
  simp only [Option.bind_some]
  rw [e2]
  simp only [Option.bind_some]
  by_cases d0 : v2 = 0
  · rw [if_pos d0, if_pos b1, if_pos hv]
    exact ⟨_, _, _, rfl, h2, by have := hz 0 (v1 : Int).toNat; omega⟩
  · rw [if_neg d0]
    by_cases d1 : v2 = 1
    · rw [if_pos d1, if_pos b1, if_pos hv, e3]
      simp only [Option.bind_some]
      have hw : ∃ w : ByteArray, rdOf ByteArray.empty ([(⟨#[48]⟩ : ByteArray), (⟨#[35]⟩ : ByteArray), (⟨#[46]⟩ : ByteArray), (⟨#[47]⟩ : ByteArray), (⟨#[32]⟩ : ByteArray), (⟨#[97]⟩ : ByteArray), (⟨#[45]⟩ : ByteArray), (⟨#[10]⟩ : ByteArray)] : List ByteArray) v3 = w ∧ w.size = 1 := by
        refine ⟨_, rfl, ?_⟩
        have hc : v3 = 0 ∨ v3 = 1 ∨ v3 = 2 ∨ v3 = 3 ∨ v3 = 4 ∨ v3 = 5 ∨ v3 = 6 ∨ v3 = 7 := by omega
        rcases hc with rfl | rfl | rfl | rfl | rfl | rfl | rfl | rfl <;> rfl
      obtain ⟨w, hw, hw1⟩ := hw
      have g1 : (T.extract 0 (v1 : Int).toNat).size + (T.extract (v1 : Int).toNat T.size).size = T.size := by
        rw [← data_length, ← data_length, Lib.extract_data, Lib.extract_data, List.length_take, List.length_drop, List.length_take, List.length_drop, data_length]; omega
      rw [if_pos b3, if_pos (by simp; omega), hw, if_pos (by omega), if_pos (by rw [ByteArray.size_append]; omega)]
      exact ⟨_, _, _, rfl, h3, by rw [ByteArray.size_append, ByteArray.size_append]; omega⟩
    · rw [if_neg d1]
      by_cases d2 : v2 = 2
      · rw [if_pos d2]
        by_cases d3 : v1 < (T.size : Int)
        · have g1 : (T.extract 0 (v1 : Int).toNat).size + (T.extract ((v1 + 1 : Int)).toNat T.size).size ≤ T.size := by
            rw [← data_length, ← data_length, Lib.extract_data, Lib.extract_data, List.length_take, List.length_drop, List.length_take, List.length_drop, data_length]; omega
          rw [if_pos d3, if_pos b1, if_pos hv, wid (v1 + 1) (by omega) (by omega), if_pos (by omega), if_pos (by omega), if_pos (by omega)]
          exact ⟨_, _, _, rfl, h2, by rw [ByteArray.size_append]; omega⟩
        · rw [if_neg d3]
          exact ⟨_, _, _, rfl, h2, by omega⟩
      · rw [if_neg d2]
        exact ⟨_, _, _, rfl, h2, by omega⟩

theorem drawAngleText_eq (l : List Int) (hl : l.length ≤ 4096) (hb : ∀ x ∈ l, 0 ≤ x ∧ x ≤ 255) : ∃ a, ∀ k, 64 < k → spec_DrawAngleText.f k l = some a := by
  obtain ⟨s, hs, hf⟩ := from_eq l hl hb
  obtain ⟨v1, t1, s1, e1, h1, b1⟩ := l03Draw_eq hs
  refine ⟨v1, fun k hk => ?_⟩
  unfold spec_DrawAngleText.f
  rw [hf k hk]; simp only [Option.bind_some]
  rw [e1]; rfl

theorem drawReadAngle_eq (l : List Int) (hl : l.length ≤ 4096) (hb : ∀ x ∈ l, 0 ≤ x ∧ x ≤ 255) : ∃ T, (∀ k, 64 < k → spec_DrawReadAngle.f k l = some T) ∧ T.size ≤ 100 := by
  obtain ⟨s, hs, hf⟩ := from_eq l hl hb
  obtain ⟨v1, t1, s1, e1, h1, b1, c1⟩ := next_eq hs 1944000 (by omega)
  obtain ⟨v2, t2, s2, e2, h2, b2, c2⟩ := next_eq h1 3 (by omega)
  have hr : -648000 ≤ v1 - 648000 ∧ v1 - 648000 ≤ 1296000 := by omega
  have hz := angT_small (v1 - 648000) hr
  obtain ⟨U, t3, s3, e3, h3, b3⟩ := damage_eq h2 (angT (v1 - 648000)) (by omega)
  have ht : ∀ k, 64 < k → spec_l03Text.f k (v1 - 648000) = some (angT (v1 - 648000)) := fun k hk => by
    have := l03Text_eq (k - 10) (v1 - 648000) hr.1 hr.2
    rwa [show k - 10 + 10 = k by omega] at this
  by_cases c : v2 = 0
  · refine ⟨U, fun k hk => ?_, by omega⟩
    unfold spec_DrawReadAngle.f
    rw [hf k hk]; simp only [Option.bind_some]
    rw [e1]; simp only [Option.bind_some]
    rw [wid _ (by omega) (by omega), ht k hk]; simp only [Option.bind_some]
    rw [e2]; simp only [Option.bind_some]
    rw [if_pos c, e3]; rfl
  · refine ⟨angT (v1 - 648000), fun k hk => ?_, by omega⟩
    unfold spec_DrawReadAngle.f
    rw [hf k hk]; simp only [Option.bind_some]
    rw [e1]; simp only [Option.bind_some]
    rw [wid _ (by omega) (by omega), ht k hk]; simp only [Option.bind_some]
    rw [e2]; simp only [Option.bind_some]
    rw [if_neg c]

theorem drawLies_eq (l : List Int) (hl : l.length ≤ 4096) (hb : ∀ x ∈ l, 0 ≤ x ∧ x ≤ 255) : ∃ b f t, ∀ k, 64 < k → spec_DrawLiesOnWay.f k l = some (b, f, t) := by
  obtain ⟨s, hs, hf⟩ := from_eq l hl hb
  obtain ⟨v1, t1, s1, e1, h1, _⟩ := l03Draw_eq hs
  obtain ⟨v2, t2, s2, e2, h2, _⟩ := l03Draw_eq h1
  obtain ⟨v3, t3, s3, e3, h3, _⟩ := pick_eq h2 [v1, v1, v2] (by simp) (by simp)
  obtain ⟨v4, t4, s4, e4, h4, _⟩ := l03Draw_eq h3
  obtain ⟨v5, t5, s5, e5, h5, _⟩ := l03Draw_eq h4
  obtain ⟨v6, t6, s6, e6, h6, _⟩ := pick_eq h5 [v4, v5, v1] (by simp) (by simp)
  refine ⟨v3, v2, v6, fun k hk => ?_⟩
  unfold spec_DrawLiesOnWay.f
  rw [hf k hk]; simp only [Option.bind_some]
  rw [e1]; simp only [Option.bind_some]
  rw [e2]; simp only [Option.bind_some]
  rw [e3]; simp only [Option.bind_some]
  rw [e4]; simp only [Option.bind_some]
  rw [e5]; simp only [Option.bind_some]
  rw [e6]; rfl

theorem two_ways (b f t : Int) (h1 : ¬ (b - f) % 1296000 ≤ (t - f) % 1296000) (h2 : ¬ (b - t) % 1296000 ≤ (f - t) % 1296000) : (t - f) % 1296000 = 0 := by omega

def atext (a : Int) : ByteArray × Int := if -648000 ≤ a ∧ a ≤ 1296000 then (angT a, 0) else ((⟨#[]⟩ : ByteArray), 2)

theorem law_end (k j : Nat) (a : Int) : (if (atext a).2 = 0 then ((impl_ReadAngle.f (j + 30) (atext a).1).bind fun r => (if r.2 = 0 then (some (r.1 == a)) else (some false))) else (some true)) = some true := by
  unfold atext
  by_cases c : -648000 ≤ a ∧ a ≤ 1296000
  · rw [if_pos c]
    simp only [if_true]
    rw [impl_ReadAngle_of a c j]
    simp
  · rw [if_neg c]; rfl

theorem law_j2 (k : Nat) (a : Int) : laws_FnAngleTexts.j2 (k + 31) a (atext a).1 (atext a).2 false = some true := by
  rw [laws_FnAngleTexts.j2, if_neg (by simp)]
  exact law_end k k a

theorem law_j1 (k : Nat) (a b f t : Int) (ok : Bool) (c3 : Int) (hr : (ok, c3) = (if val3 b f t then (decide ((b - f) % 1296000 ≤ (t - f) % 1296000), 0) else (false, 2))) :
    laws_FnAngleTexts.j1 (k + 32) a (atext a).1 (atext a).2 b f t ok c3 = some true := by
  rw [laws_FnAngleTexts.j1]
  by_cases h : val3 b f t
  · rw [if_pos h] at hr
    obtain ⟨rfl, rfl⟩ := Prod.mk.inj hr
    have v1 : val3 f f t := ⟨⟨h.1.2, h.1.2⟩, h.2⟩
    have v2 : val3 t f t := ⟨⟨h.2, h.1.2⟩, h.2⟩
    have v3 : val3 b t f := ⟨⟨h.1.1, h.2⟩, h.1.2⟩
    rw [if_pos rfl, impl_lies_eq f f t, if_pos v1]
    simp only [Option.bind_some]
    rw [impl_lies_eq t f t, if_pos v2]
    simp only [Option.bind_some]
    rw [impl_lies_eq b t f, if_pos v3]
    simp only [Option.bind_some, if_true]
    rw [if_pos (decide_eq_true (by omega)), if_pos (decide_eq_true (by omega))]
    by_cases o1 : (b - f) % 1296000 ≤ (t - f) % 1296000
    · rw [if_pos (decide_eq_true o1)]; exact law_j2 k a
    · rw [if_neg (by simpa using o1)]
      by_cases o2 : (b - t) % 1296000 ≤ (f - t) % 1296000
      · rw [if_pos (decide_eq_true o2)]; exact law_j2 k a
      · rw [if_neg (by simpa using o2)]
        have e := two_ways b f t o1 o2
        rw [wid (t - f) (by omega) (by omega), (tdiv_pos_spec _ 1296000 (by omega)).1, if_pos (.inr e), e]
        exact law_j2 k a
  · rw [if_neg h] at hr
    obtain ⟨rfl, rfl⟩ := Prod.mk.inj hr
    rw [if_neg (by omega)]
    exact law_end k (k + 1) a

theorem law_j0 (k : Nat) (a b f t : Int) (s : ByteArray) (r : Int × Int) (hr : angAns s r) (ok : Bool) (c3 : Int) (ho : (ok, c3) = (if val3 b f t then (decide ((b - f) % 1296000 ≤ (t - f) % 1296000), 0) else (false, 2))) :
    laws_FnAngleTexts.j0 (k + 33) a (atext a).1 (atext a).2 s r.1 r.2 b f t ok c3 false = some true := by
  rw [laws_FnAngleTexts.j0, if_neg (by simp)]
  rcases hr with rfl | ⟨x, hx, rfl, rfl⟩
  · rw [if_neg (by simp)]
    exact law_j1 k a b f t ok c3 ho
  · rw [if_pos rfl, impl_AngleText_eq (k + 2) x, if_pos hx]
    simp only [Option.bind_some, if_true]
    exact law_j1 k a b f t ok c3 ho

theorem FnAngleTexts (l : List Int) (h : l.length ≤ maxLen) (h1 : l.length * 1 ≤ 140737488351232) (hw : ∀ x ∈ l, (Lit.int .u8 x).wf = true) : ∃ k, laws_FnAngleTexts.f k l = some true := by
  have hb := code_bytes hw
  refine ⟨1049200 + 33, ?_⟩
  generalize hk : 1049200 = k
  unfold laws_FnAngleTexts.f
  rw [big_eq]
  simp only [Option.bind_some]
  by_cases c : (l.length : Int) > 4096
  · rw [if_pos (decide_eq_true c)]
  · rw [if_neg (by simpa using c)]
    have hl : l.length ≤ 4096 := by omega
    obtain ⟨a, ha⟩ := drawAngleText_eq l hl hb
    obtain ⟨s, hs, hz⟩ := drawReadAngle_eq l hl hb
    obtain ⟨b, f, t, hd⟩ := drawLies_eq l hl hb
    obtain ⟨r, e1, e2, hr⟩ := angle_read_same s (by omega) (k + 33) (k + 3) (by omega)
    rw [ha _ (by omega)]
    simp only [Option.bind_some]
    rw [impl_AngleText_eq (k + 3) a]
    simp only [Option.bind_some]
    rw [spec_AngleText_eq (k + 3) a]
    simp only [Option.bind_some]
    rw [hs _ (by omega)]
    simp only [Option.bind_some]
    rw [e2]
    simp only [Option.bind_some]
    rw [e1]
    simp only [Option.bind_some]
    rw [hd _ (by omega)]
    simp only [Option.bind_some]
    rw [impl_lies_eq b f t]
    simp only [Option.bind_some]
    rw [spec_lies_eq (k + 32) b f t]
    simp only [Option.bind_some, if_true, bne_self_eq_false]
    exact law_j0 k a b f t s r hr _ _ rfl

end Go.Proofs.YtndjeclnadpifaaDoor.Pure
