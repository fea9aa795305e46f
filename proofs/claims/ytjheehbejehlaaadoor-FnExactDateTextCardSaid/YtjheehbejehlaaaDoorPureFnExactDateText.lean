/- Proved: for every date the law FnExactDateText returns true. Conditions: none. -/
import Derived.Test.YtjheehbejehlaaaDoorQFnExactDateTextx3
namespace Go.Proofs.YtjheehbejehlaaaDoor.Pure
open Go.RowKit Go.Proofs.YtjheehbejehlaaaDoor.PFnExactDateText Go.Proofs.YtjheehbejehlaaaDoorW.PrintWords Go.Proofs.YtjheehbejehlaaaDoorW.PrintLast Go.Proofs.YtjheehbejehlaaaDoorW.PrintMore
set_option linter.unusedVariables false
set_option linter.unusedSimpArgs false

theorem wid (n : Int) (h0 : -9223372036854775808 ≤ n) (h1 : n ≤ 9223372036854775807) : wrap64 n = n := by unfold wrap64; omega

theorem tmodP (a b : Int) (h : 0 ≤ a) : a.tmod b = a % b := Int.tmod_eq_emod_of_nonneg h

theorem tdivP (a b : Int) (h : 0 ≤ a) : a.tdiv b = a / b := Int.tdiv_eq_ediv_of_nonneg h

/-- Go's truncated quotient and remainder by a positive number, in Lean's floor form. -/
theorem tdiv_pos_spec (a b : Int) (hb : 0 < b) : a.tmod b = (if 0 ≤ a ∨ a % b = 0 then a % b else a % b - b) ∧ a.tdiv b = (if 0 ≤ a ∨ a % b = 0 then a / b else a / b + 1) := by
  have h1 : a.tdiv b = (if 0 ≤ a ∨ a % b = 0 then a / b else a / b + 1) := by
    rw [Int.tdiv_eq_ediv]
    have e : b.sign = 1 := Int.sign_eq_one_of_pos hb
    rw [e]
    have : (b ∣ a) ↔ a % b = 0 := Int.dvd_iff_emod_eq_zero
    by_cases h : 0 ≤ a ∨ a % b = 0
    · rw [if_pos h, if_pos (by rw [this]; exact h)]; omega
    · rw [if_neg h, if_neg (by rw [this]; exact h)]
  refine ⟨?_, h1⟩
  have h2 := Int.mul_tdiv_add_tmod a b
  have h3 := Int.mul_ediv_add_emod a b
  rw [h1] at h2
  by_cases h : 0 ≤ a ∨ a % b = 0
  · rw [if_pos h] at h2 ⊢; omega
  · rw [if_neg h] at h2 ⊢; rw [Int.mul_add] at h2; omega

theorem impl_in_eq (n lo hi : Int) : impl_in.f n lo hi = some (decide (lo ≤ n ∧ n ≤ hi)) := by
  unfold impl_in.f; by_cases h : n ≥ lo
  · rw [if_pos h]; simp [show lo ≤ n from h]
  · rw [if_neg h]; simp [show ¬ lo ≤ n from h]

theorem spec_in_eq (n lo hi : Int) : spec_l01In.f n lo hi = some (decide (lo ≤ n ∧ n ≤ hi)) := by
  unfold spec_l01In.f; by_cases h : n ≥ lo
  · rw [if_pos h]; simp [show lo ≤ n from h]
  · rw [if_neg h]; simp [show ¬ lo ≤ n from h]

theorem dec_and (p q : Prop) [Decidable p] [Decidable q] : (if decide p = true then some (decide q) else some false) = some (decide (p ∧ q)) := by
  by_cases h : p <;> simp [h]

def dim (y m : Int) : Int := if m = 2 then (if y % 4 = 0 then 29 else 28) else if m = 4 ∨ m = 6 ∨ m = 9 ∨ m = 11 then 30 else 31

theorem tmod4 (y : Int) : Int.tmod y 4 = 0 ↔ y % 4 = 0 := by
  obtain ⟨e, _⟩ := tdiv_pos_spec y 4 (by omega)
  rw [e]; by_cases h : 0 ≤ y ∨ y % 4 = 0
  · rw [if_pos h]
  · rw [if_neg h]; omega

theorem spec_days_eq (y m : Int) : spec_l07Days.f y m = some (dim y m) := by
  unfold spec_l07Days.f dim
  by_cases h2 : m = 2
  · rw [if_pos h2, if_pos h2]; by_cases h : y % 4 = 0
    · rw [if_pos h, if_pos ((tmod4 y).2 h)]
    · rw [if_neg h, if_neg (fun k => h ((tmod4 y).1 k))]
  · rw [if_neg h2, if_neg h2]
    by_cases h4 : m = 4
    · rw [if_pos h4, if_pos (.inl h4)]
    · by_cases h6 : m = 6
      · rw [if_neg h4, if_pos h6, if_pos (.inr (.inl h6))]
      · by_cases h9 : m = 9
        · rw [if_neg h4, if_neg h6, if_pos h9, if_pos (.inr (.inr (.inl h9)))]
        · by_cases h11 : m = 11
          · rw [if_neg h4, if_neg h6, if_neg h9, if_pos h11, if_pos (.inr (.inr (.inr h11)))]
          · rw [if_neg h4, if_neg h6, if_neg h9, if_neg h11, if_neg (by omega)]

theorem impl_days_eq (k : Nat) (y m : Int) : impl_daysInMonth.f (k + 1) y m = some (dim y m) := by
  unfold impl_daysInMonth.f dim
  simp only [impl_daysInMonth.j0]
  by_cases h4 : m = 4
  · subst h4; simp
  · by_cases h6 : m = 6
    · subst h6; simp
    · by_cases h9 : m = 9
      · subst h9; simp
      · by_cases h11 : m = 11
        · subst h11; simp
        · rw [if_neg h4, if_neg h6, if_neg h9, if_neg (by simpa using h11)]
          by_cases h2 : m = 2
          · rw [if_pos h2, if_pos h2]; by_cases h : y % 4 = 0
            · rw [if_pos h, if_pos ((tmod4 y).2 h)]
            · rw [if_neg h, if_neg (fun k => h ((tmod4 y).1 k))]
          · rw [if_neg h2, if_neg h2, if_neg (by omega)]

abbrev mon (y m : Int) : Prop := (1901 ≤ y ∧ y ≤ 2099) ∧ (1 ≤ m ∧ m ≤ 12)

theorem spec_month_eq (y m : Int) : spec_l07Month.f y m = some (decide (mon y m)) := by
  unfold spec_l07Month.f; rw [spec_in_eq, spec_in_eq]; simp only [Option.bind_some, dec_and]

theorem impl_isMonth_eq (y m : Int) : impl_isMonth.f y m = some (decide (mon y m)) := by
  unfold impl_isMonth.f; rw [impl_in_eq, impl_in_eq]; simp only [Option.bind_some, dec_and]

abbrev dat (y m d : Int) : Prop := mon y m ∧ (1 ≤ d ∧ d ≤ dim y m)

theorem spec_IsDate_eq (y m d : Int) : spec_IsDate.f y m d = some (decide (dat y m d)) := by
  unfold spec_IsDate.f; rw [spec_month_eq, spec_days_eq]; simp only [Option.bind_some]; rw [spec_in_eq]; simp only [Option.bind_some, dec_and]

theorem impl_IsDate_eq (k : Nat) (y m d : Int) : impl_IsDate.f (k + 1) y m d = some (decide (dat y m d)) := by
  unfold impl_IsDate.f; rw [impl_isMonth_eq, impl_days_eq]; simp only [Option.bind_some]; rw [impl_in_eq]; simp only [Option.bind_some, dec_and]

theorem dig1 (u : Nat) (h : u < 10) : Lib.decDigits u = [UInt8.ofNat (48 + u)] := by rw [Lib.decDigits, dif_pos h]

theorem dig2 (u : Nat) (h0 : 10 ≤ u) : Lib.decDigits u = Lib.decDigits (u / 10) ++ [UInt8.ofNat (48 + u % 10)] := by rw [Lib.decDigits, dif_neg (by omega)]

theorem digs_len : ∀ (d u : Nat), u < 10 ^ (d + 1) → (Lib.decDigits u).length ≤ d + 1 := by
  intro d
  induction d with
  | zero => intro u h; rw [dig1 u (by omega)]; simp
  | succ d ih =>
    intro u h
    by_cases c : u < 10
    · rw [dig1 u c]; simp
    · rw [dig2 u (by omega)]
      have := ih (u / 10) (by rw [Nat.pow_succ] at h; omega)
      simp only [List.length_append, List.length_cons, List.length_nil]; omega

theorem nums1 (x : Int) : strOfNums [x] = ⟨#[UInt8.ofNat x.toNat]⟩ := by simp [strOfNums]

theorem nums2 (x y : Int) : strOfNums [x, y] = ⟨#[UInt8.ofNat x.toNat, UInt8.ofNat y.toNat]⟩ := by simp [strOfNums]

theorem ba_append (l m : List UInt8) : (⟨l.toArray⟩ : ByteArray) ++ (⟨m.toArray⟩ : ByteArray) = ⟨(l ++ m).toArray⟩ := by
  apply ByteArray.ext
  simp [ByteArray.data_append]

theorem ba_size (l : List UInt8) : (⟨l.toArray⟩ : ByteArray).size = l.length := by simp [ByteArray.size]

/-- The specification's decimal numeral is the library's. -/
theorem dec_eq : ∀ (d : Nat) (u : Nat), u < 10 ^ (d + 1) → d ≤ 17 → ∀ k, d < k → spec_l01Dec.f k (u : Int) = some ⟨(Lib.decDigits u).toArray⟩ := by
  intro d
  induction d with
  | zero =>
    intro u h _ k hk
    obtain ⟨k, rfl⟩ : ∃ m, k = m + 1 := ⟨k - 1, by omega⟩
    rw [spec_l01Dec.f, if_pos (by omega), nums1, wid (48 + (u : Int)) (by omega) (by omega), dig1 u (by omega), show ((48 + (u : Int)) % 256).toNat = 48 + u by omega]
  | succ d ih =>
    intro u h hd k hk
    obtain ⟨k, rfl⟩ : ∃ m, k = m + 1 := ⟨k - 1, by omega⟩
    have hb : u < 10 ^ 18 := Nat.lt_of_lt_of_le h (Nat.pow_le_pow_right (by omega) (by omega))
    by_cases c : u < 10
    · rw [spec_l01Dec.f, if_pos (by omega), nums1, wid (48 + (u : Int)) (by omega) (by omega), dig1 u c, show ((48 + (u : Int)) % 256).toNat = 48 + u by omega]
    · have e1 : wrap64 (Int.tdiv (u : Int) 10) = ((u / 10 : Nat) : Int) := by rw [tdivP _ _ (by omega), wid _ (by omega) (by omega)]; omega
      have e2 : Int.tmod (u : Int) 10 = ((u % 10 : Nat) : Int) := by rw [tmodP _ _ (by omega)]; omega
      have hlen := digs_len d (u / 10) (by rw [Nat.pow_succ] at h; omega)
      rw [spec_l01Dec.f, if_neg (by omega), e1, ih (u / 10) (by rw [Nat.pow_succ] at h; omega) (by omega) k (by omega), e2, wid (48 + ((u % 10 : Nat) : Int)) (by omega) (by omega)]
      simp only [Option.bind_some]
      rw [nums1, show ((48 + ((u % 10 : Nat) : Int)) % 256).toNat = 48 + u % 10 by omega, if_pos (by rw [ba_size]; show _ + 1 ≤ _; omega), dig2 u (by omega)]
      exact congrArg some (ba_append _ [_])

theorem itoa_nat (u : Nat) : Lib.itoa (u : Int) = Lib.decDigits u := by unfold Lib.itoa; rw [if_neg (by omega)]; simp

theorem decimal_eq (k u : Nat) (h : u < 10 ^ 18) : impl_decimal.f k (u : Int) = some ⟨(Lib.decDigits u).toArray⟩ := by
  unfold impl_decimal.f; rw [if_pos (by omega), if_pos (by omega), itoa_nat]

def twoT (u : Nat) : ByteArray := ⟨#[UInt8.ofNat (48 + u / 10), UInt8.ofNat (48 + u % 10)]⟩

theorem spec_two_text (u : Nat) (h : u < 100) : spec_l03Two.f (u : Int) = some (twoT u) := by
  unfold spec_l03Two.f twoT
  rw [tdivP _ _ (by omega), tmodP _ _ (by omega), wid ((u : Int) / 10) (by omega) (by omega), wid (48 + (u : Int) / 10) (by omega) (by omega), wid (48 + (u : Int) % 10) (by omega) (by omega), nums2,
    show ((48 + (u : Int) / 10) % 256).toNat = 48 + u / 10 by omega, show ((48 + (u : Int) % 10) % 256).toNat = 48 + u % 10 by omega]

theorem padded_eq (k u : Nat) (h : u < 100) : impl_padded.f (k + 2) (u : Int) 2 = some (twoT u) := by
  unfold impl_padded.f twoT
  rw [decimal_eq _ u (by omega)]
  simp only [Option.bind_some]
  by_cases c : u < 10
  · rw [dig1 u c, impl_padded.l0, if_pos (by rw [ba_size]; simp), if_pos (by rw [ba_size]; simp), show (⟨#[48]⟩ : ByteArray) ++ ⟨[UInt8.ofNat (48 + u)].toArray⟩ = ⟨[48, UInt8.ofNat (48 + u)].toArray⟩ from ba_append [48] _, impl_padded.l0, if_neg (by rw [ba_size]; simp), show u / 10 = 0 by omega, show u % 10 = u by omega]
    rfl
  · rw [dig2 u (by omega), dig1 (u / 10) (by omega), impl_padded.l0, if_neg (by rw [ba_size]; simp)]
    rfl

theorem ba_one (x : UInt8) : (⟨#[x]⟩ : ByteArray).size = 1 := rfl

theorem two_arr (u : Nat) : ∃ D : ByteArray, twoT u = D ∧ D.size = 2 := ⟨_, rfl, rfl⟩

theorem padded_eq9 (k u : Nat) (h : u < 100) : ∀ x : Int, x = (u : Int) → impl_padded.f (k + 9) x 2 = some (twoT u) := fun x hx => by
  have := padded_eq (k + 7) u h
  rw [hx]; simpa using this

def datT (y m d : Nat) : ByteArray := (((⟨(Lib.decDigits y).toArray⟩ ++ (⟨#[45]⟩ : ByteArray)) ++ twoT m) ++ (⟨#[45]⟩ : ByteArray)) ++ twoT d

theorem digs_arr4 (u : Nat) (h : u < 10000) : ∃ D : ByteArray, (⟨(Lib.decDigits u).toArray⟩ : ByteArray) = D ∧ D.size ≤ 4 := ⟨_, rfl, by rw [ba_size]; exact digs_len 3 u (by omega)⟩

theorem spec_l07Text_eq (k y m d : Nat) (hy : y < 10000) (hm : m < 100) (hd : d < 100) : spec_l07Text.f (k + 10) (y : Int) (m : Int) (d : Int) = some (datT y m d) := by
  have h1 := dec_eq 3 y (by omega) (by omega) (k + 10) (by omega)
  have h2 := spec_two_text m hm
  have h3 := spec_two_text d hd
  unfold spec_l07Text.f datT
  obtain ⟨D, eD, zD⟩ := digs_arr4 y hy
  obtain ⟨M, eM, zM⟩ := two_arr m
  obtain ⟨S, eS, zS⟩ := two_arr d
  rw [eD] at h1 ⊢; rw [eM] at h2 ⊢; rw [eS] at h3 ⊢
  simp only [h1, h2, h3, Option.bind_some, ByteArray.size_append, ba_one, zM, zS]
  rw [if_pos (show D.size + 1 ≤ 9223372036854775807 by omega), if_pos (show D.size + 1 + 2 ≤ 9223372036854775807 by omega), if_pos (show D.size + 1 + 2 + 1 ≤ 9223372036854775807 by omega), if_pos (show D.size + 1 + 2 + 1 + 2 ≤ 9223372036854775807 by omega)]

theorem impl_DateText_yes (k y m d : Nat) (hy : y < 10000) (hm : m < 100) (hd : d < 100) (hD : dat (y : Int) (m : Int) (d : Int)) : impl_DateText.f (k + 9) (y : Int) (m : Int) (d : Int) = some (datT y m d, 0) := by
  have h1 := decimal_eq (k + 9) y (by omega)
  have h2 := padded_eq9 k m hm _ rfl
  have h3 := padded_eq9 k d hd _ rfl
  have h0 := impl_IsDate_eq (k + 8) (y : Int) (m : Int) (d : Int)
  rw [show k + 8 + 1 = k + 9 from rfl, decide_eq_true hD] at h0
  unfold impl_DateText.f datT
  obtain ⟨D, eD, zD⟩ := digs_arr4 y hy
  obtain ⟨M, eM, zM⟩ := two_arr m
  obtain ⟨S, eS, zS⟩ := two_arr d
  rw [eD] at h1 ⊢; rw [eM] at h2 ⊢; rw [eS] at h3 ⊢
  simp only [h0, h1, h2, h3, Option.bind_some, if_true, ByteArray.size_append, ba_one, zM, zS]
  rw [if_pos (show D.size + 1 ≤ 9223372036854775807 by omega), if_pos (show D.size + 1 + 2 ≤ 9223372036854775807 by omega), if_pos (show D.size + 1 + 2 + 1 ≤ 9223372036854775807 by omega), if_pos (show D.size + 1 + 2 + 1 + 2 ≤ 9223372036854775807 by omega)]

theorem dat_nat {y m d : Int} (h : dat y m d) : ∃ Y M D : Nat, y = Y ∧ m = M ∧ d = D ∧ Y < 10000 ∧ M < 100 ∧ D < 100 := by
  have h' : (1901 ≤ y ∧ y ≤ 2099) ∧ (1 ≤ m ∧ m ≤ 12) ∧ 1 ≤ d ∧ d ≤ 31 := by
    unfold dat at h; have hd : dim y m ≤ 31 := by unfold dim; repeat' split <;> omega
    omega
  exact ⟨y.toNat, m.toNat, d.toNat, by omega, by omega, by omega, by omega, by omega, by omega⟩

theorem FnExactDateText (a0_0 : Int) (a0_1 : Int) (a0_2 : Int) (h0_0 : (Lit.int .i64 a0_0).wf = true) (h0_1 : (Lit.int .i64 a0_1).wf = true) (h0_2 : (Lit.int .i64 a0_2).wf = true) : ∃ k, laws_FnExactDateText.f k a0_0 a0_1 a0_2 = some true := by
  refine ⟨10, ?_⟩
  unfold laws_FnExactDateText.f laws_toDate.f spec_DateText.f
  simp only [Option.bind_some, spec_IsDate_eq]
  by_cases c : dat a0_0 a0_1 a0_2
  · obtain ⟨Y, M, D, rfl, rfl, rfl, hY, hM, hD⟩ := dat_nat c
    rw [spec_l07Text_eq 0 Y M D hY hM hD, impl_DateText_yes 1 Y M D hY hM hD c]
    simp [c]
  · have h0 := impl_IsDate_eq 9 a0_0 a0_1 a0_2
    unfold impl_DateText.f
    rw [show (9 : Nat) + 1 = 10 from rfl] at h0
    simp only [h0]
    simp [c]

end Go.Proofs.YtjheehbejehlaaaDoor.Pure
