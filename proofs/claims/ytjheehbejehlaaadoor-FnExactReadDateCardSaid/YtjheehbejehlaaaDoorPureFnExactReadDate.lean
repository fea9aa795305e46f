/- Proved: for every text the law FnExactReadDate returns true. Conditions: none. -/
import Derived.Test.YtjheehbejehlaaaDoorQFnExactReadDatex5
namespace Go.Proofs.YtjheehbejehlaaaDoor.Pure
open Go.RowKit Go.Proofs.YtjheehbejehlaaaDoor.PFnExactReadDate Go.Proofs.YtjheehbejehlaaaDoorW.PrintWords Go.Proofs.YtjheehbejehlaaaDoorW.PrintLast Go.Proofs.YtjheehbejehlaaaDoorW.PrintMore
set_option linter.unusedVariables false
set_option linter.unusedSimpArgs false

theorem wid (n : Int) (h0 : -9223372036854775808 ≤ n) (h1 : n ≤ 9223372036854775807) : wrap64 n = n := by unfold wrap64; omega

theorem tmodP (a b : Int) (h : 0 ≤ a) : a.tmod b = a % b := Int.tmod_eq_emod_of_nonneg h

theorem tdivP (a b : Int) (h : 0 ≤ a) : a.tdiv b = a / b := Int.tdiv_eq_ediv_of_nonneg h

/-- Go's truncated quotient and remainder by a positive number, in Lean's floor form. -/
theorem tdiv_pos_spec (a b : Int) (hb : 0 < b) : a.tmod b = (if 0 ≤ a ∨ a % b = 0 then a % b else a % b - b) ∧ a.tdiv b = (if 0 ≤ a ∨ a % b = 0 then a / b else a / b + 1) := by
  have h1 : a.tdiv b = (if 0 ≤ a ∨ a % b = 0 then a / b else a / b + 1) := by
    rw [Int.tdiv_eq_ediv]
    have e : b.sign = 1 := Int.sign_eq_one_of_pos hb
    rw [e]
    have : (b ∣ a) ↔ a % b = 0 := Int.dvd_iff_emod_eq_zero
    by_cases h : 0 ≤ a ∨ a % b = 0
    · rw [if_pos h, if_pos (by rw [this]; exact h)]; omega
    · rw [if_neg h, if_neg (by rw [this]; exact h)]
  refine ⟨?_, h1⟩
  have h2 := Int.mul_tdiv_add_tmod a b
  have h3 := Int.mul_ediv_add_emod a b
  rw [h1] at h2
  by_cases h : 0 ≤ a ∨ a % b = 0
  · rw [if_pos h] at h2 ⊢; omega
  · rw [if_neg h] at h2 ⊢; rw [Int.mul_add] at h2; omega

theorem impl_in_eq (n lo hi : Int) : impl_in.f n lo hi = some (decide (lo ≤ n ∧ n ≤ hi)) := by
  unfold impl_in.f; by_cases h : n ≥ lo
  · rw [if_pos h]; simp [show lo ≤ n from h]
  · rw [if_neg h]; simp [show ¬ lo ≤ n from h]

theorem spec_in_eq (n lo hi : Int) : spec_l01In.f n lo hi = some (decide (lo ≤ n ∧ n ≤ hi)) := by
  unfold spec_l01In.f; by_cases h : n ≥ lo
  · rw [if_pos h]; simp [show lo ≤ n from h]
  · rw [if_neg h]; simp [show ¬ lo ≤ n from h]

theorem dec_and (p q : Prop) [Decidable p] [Decidable q] : (if decide p = true then some (decide q) else some false) = some (decide (p ∧ q)) := by
  by_cases h : p <;> simp [h]

def dim (y m : Int) : Int := if m = 2 then (if y % 4 = 0 then 29 else 28) else if m = 4 ∨ m = 6 ∨ m = 9 ∨ m = 11 then 30 else 31

theorem tmod4 (y : Int) : Int.tmod y 4 = 0 ↔ y % 4 = 0 := by
  obtain ⟨e, _⟩ := tdiv_pos_spec y 4 (by omega)
  rw [e]; by_cases h : 0 ≤ y ∨ y % 4 = 0
  · rw [if_pos h]
  · rw [if_neg h]; omega

theorem spec_days_eq (y m : Int) : spec_l07Days.f y m = some (dim y m) := by
  unfold spec_l07Days.f dim
  by_cases h2 : m = 2
  · rw [if_pos h2, if_pos h2]; by_cases h : y % 4 = 0
    · rw [if_pos h, if_pos ((tmod4 y).2 h)]
    · rw [if_neg h, if_neg (fun k => h ((tmod4 y).1 k))]
  · rw [if_neg h2, if_neg h2]
    by_cases h4 : m = 4
    · rw [if_pos h4, if_pos (.inl h4)]
    · by_cases h6 : m = 6
      · rw [if_neg h4, if_pos h6, if_pos (.inr (.inl h6))]
      · by_cases h9 : m = 9
        · rw [if_neg h4, if_neg h6, if_pos h9, if_pos (.inr (.inr (.inl h9)))]
        · by_cases h11 : m = 11
          · rw [if_neg h4, if_neg h6, if_neg h9, if_pos h11, if_pos (.inr (.inr (.inr h11)))]
          · rw [if_neg h4, if_neg h6, if_neg h9, if_neg h11, if_neg (by omega)]

theorem impl_days_eq (k : Nat) (y m : Int) : impl_daysInMonth.f (k + 1) y m = some (dim y m) := by
  unfold impl_daysInMonth.f dim
  simp only [impl_daysInMonth.j0]
  by_cases h4 : m = 4
  · subst h4; simp
  · by_cases h6 : m = 6
    · subst h6; simp
    · by_cases h9 : m = 9
      · subst h9; simp
      · by_cases h11 : m = 11
        · subst h11; simp
        · rw [if_neg h4, if_neg h6, if_neg h9, if_neg (by simpa using h11)]
          by_cases h2 : m = 2
          · rw [if_pos h2, if_pos h2]; by_cases h : y % 4 = 0
            · rw [if_pos h, if_pos ((tmod4 y).2 h)]
            · rw [if_neg h, if_neg (fun k => h ((tmod4 y).1 k))]
          · rw [if_neg h2, if_neg h2, if_neg (by omega)]

abbrev mon (y m : Int) : Prop := (1901 ≤ y ∧ y ≤ 2099) ∧ (1 ≤ m ∧ m ≤ 12)

theorem spec_month_eq (y m : Int) : spec_l07Month.f y m = some (decide (mon y m)) := by
  unfold spec_l07Month.f; rw [spec_in_eq, spec_in_eq]; simp only [Option.bind_some, dec_and]

theorem impl_isMonth_eq (y m : Int) : impl_isMonth.f y m = some (decide (mon y m)) := by
  unfold impl_isMonth.f; rw [impl_in_eq, impl_in_eq]; simp only [Option.bind_some, dec_and]

abbrev dat (y m d : Int) : Prop := mon y m ∧ (1 ≤ d ∧ d ≤ dim y m)

theorem spec_IsDate_eq (y m d : Int) : spec_IsDate.f y m d = some (decide (dat y m d)) := by
  unfold spec_IsDate.f; rw [spec_month_eq, spec_days_eq]; simp only [Option.bind_some]; rw [spec_in_eq]; simp only [Option.bind_some, dec_and]

theorem impl_IsDate_eq (k : Nat) (y m d : Int) : impl_IsDate.f (k + 1) y m d = some (decide (dat y m d)) := by
  unfold impl_IsDate.f; rw [impl_isMonth_eq, impl_days_eq]; simp only [Option.bind_some]; rw [impl_in_eq]; simp only [Option.bind_some, dec_and]

theorem dim_range (y m : Int) : 28 ≤ dim y m ∧ dim y m ≤ 31 := by
  unfold dim; repeat' split
  all_goals omega

theorem dat_bounds {y m d : Int} (h : dat y m d) : 1901 ≤ y ∧ y ≤ 2099 ∧ 1 ≤ m ∧ m ≤ 12 ∧ 1 ≤ d ∧ d ≤ 31 := by
  have := dim_range y m; omega

theorem dig1 (u : Nat) (h : u < 10) : Lib.decDigits u = [UInt8.ofNat (48 + u)] := by rw [Lib.decDigits, dif_pos h]

theorem dig2 (u : Nat) (h0 : 10 ≤ u) : Lib.decDigits u = Lib.decDigits (u / 10) ++ [UInt8.ofNat (48 + u % 10)] := by rw [Lib.decDigits, dif_neg (by omega)]

theorem digs_len : ∀ (d u : Nat), u < 10 ^ (d + 1) → (Lib.decDigits u).length ≤ d + 1 := by
  intro d
  induction d with
  | zero => intro u h; rw [dig1 u (by omega)]; simp
  | succ d ih =>
    intro u h
    by_cases c : u < 10
    · rw [dig1 u c]; simp
    · rw [dig2 u (by omega)]
      have := ih (u / 10) (by rw [Nat.pow_succ] at h; omega)
      simp only [List.length_append, List.length_cons, List.length_nil]; omega

theorem nums1 (x : Int) : strOfNums [x] = ⟨#[UInt8.ofNat x.toNat]⟩ := by simp [strOfNums]

theorem nums2 (x y : Int) : strOfNums [x, y] = ⟨#[UInt8.ofNat x.toNat, UInt8.ofNat y.toNat]⟩ := by simp [strOfNums]

theorem ba_append (l m : List UInt8) : (⟨l.toArray⟩ : ByteArray) ++ (⟨m.toArray⟩ : ByteArray) = ⟨(l ++ m).toArray⟩ := by
  apply ByteArray.ext
  simp [ByteArray.data_append]

theorem ba_size (l : List UInt8) : (⟨l.toArray⟩ : ByteArray).size = l.length := by simp [ByteArray.size]

/-- The specification's decimal numeral is the library's. -/
theorem dec_eq : ∀ (d : Nat) (u : Nat), u < 10 ^ (d + 1) → d ≤ 17 → ∀ k, d < k → spec_l01Dec.f k (u : Int) = some ⟨(Lib.decDigits u).toArray⟩ := by
  intro d
  induction d with
  | zero =>
    intro u h _ k hk
    obtain ⟨k, rfl⟩ : ∃ m, k = m + 1 := ⟨k - 1, by omega⟩
    rw [spec_l01Dec.f, if_pos (by omega), nums1, wid (48 + (u : Int)) (by omega) (by omega), dig1 u (by omega), show ((48 + (u : Int)) % 256).toNat = 48 + u by omega]
  | succ d ih =>
    intro u h hd k hk
    obtain ⟨k, rfl⟩ : ∃ m, k = m + 1 := ⟨k - 1, by omega⟩
    have hb : u < 10 ^ 18 := Nat.lt_of_lt_of_le h (Nat.pow_le_pow_right (by omega) (by omega))
    by_cases c : u < 10
    · rw [spec_l01Dec.f, if_pos (by omega), nums1, wid (48 + (u : Int)) (by omega) (by omega), dig1 u c, show ((48 + (u : Int)) % 256).toNat = 48 + u by omega]
    · have e1 : wrap64 (Int.tdiv (u : Int) 10) = ((u / 10 : Nat) : Int) := by rw [tdivP _ _ (by omega), wid _ (by omega) (by omega)]; omega
      have e2 : Int.tmod (u : Int) 10 = ((u % 10 : Nat) : Int) := by rw [tmodP _ _ (by omega)]; omega
      have hlen := digs_len d (u / 10) (by rw [Nat.pow_succ] at h; omega)
      rw [spec_l01Dec.f, if_neg (by omega), e1, ih (u / 10) (by rw [Nat.pow_succ] at h; omega) (by omega) k (by omega), e2, wid (48 + ((u % 10 : Nat) : Int)) (by omega) (by omega)]
      simp only [Option.bind_some]
      rw [nums1, show ((48 + ((u % 10 : Nat) : Int)) % 256).toNat = 48 + u % 10 by omega, if_pos (by rw [ba_size]; show _ + 1 ≤ _; omega), dig2 u (by omega)]
      exact congrArg some (ba_append _ [_])

theorem itoa_nat (u : Nat) : Lib.itoa (u : Int) = Lib.decDigits u := by unfold Lib.itoa; rw [if_neg (by omega)]; simp

theorem decimal_eq (k u : Nat) (h : u < 10 ^ 18) : impl_decimal.f k (u : Int) = some ⟨(Lib.decDigits u).toArray⟩ := by
  unfold impl_decimal.f; rw [if_pos (by omega), if_pos (by omega), itoa_nat]

def twoT (u : Nat) : ByteArray := ⟨#[UInt8.ofNat (48 + u / 10), UInt8.ofNat (48 + u % 10)]⟩

theorem spec_two_text (u : Nat) (h : u < 100) : spec_l03Two.f (u : Int) = some (twoT u) := by
  unfold spec_l03Two.f twoT
  rw [tdivP _ _ (by omega), tmodP _ _ (by omega), wid ((u : Int) / 10) (by omega) (by omega), wid (48 + (u : Int) / 10) (by omega) (by omega), wid (48 + (u : Int) % 10) (by omega) (by omega), nums2,
    show ((48 + (u : Int) / 10) % 256).toNat = 48 + u / 10 by omega, show ((48 + (u : Int) % 10) % 256).toNat = 48 + u % 10 by omega]

theorem padded_eq (k u : Nat) (h : u < 100) : impl_padded.f (k + 2) (u : Int) 2 = some (twoT u) := by
  unfold impl_padded.f twoT
  rw [decimal_eq _ u (by omega)]
  simp only [Option.bind_some]
  by_cases c : u < 10
  · rw [dig1 u c, impl_padded.l0, if_pos (by rw [ba_size]; simp), if_pos (by rw [ba_size]; simp), show (⟨#[48]⟩ : ByteArray) ++ ⟨[UInt8.ofNat (48 + u)].toArray⟩ = ⟨[48, UInt8.ofNat (48 + u)].toArray⟩ from ba_append [48] _, impl_padded.l0, if_neg (by rw [ba_size]; simp), show u / 10 = 0 by omega, show u % 10 = u by omega]
    rfl
  · rw [dig2 u (by omega), dig1 (u / 10) (by omega), impl_padded.l0, if_neg (by rw [ba_size]; simp)]
    rfl

theorem two_size (u : Nat) : (twoT u).size = 2 := rfl

theorem ba_one (x : UInt8) : (⟨#[x]⟩ : ByteArray).size = 1 := rfl

theorem two_arr (u : Nat) : ∃ D : ByteArray, twoT u = D ∧ D.size = 2 := ⟨_, rfl, rfl⟩

theorem padded_eq9 (k u : Nat) (h : u < 100) : ∀ x : Int, x = (u : Int) → impl_padded.f (k + 9) x 2 = some (twoT u) := fun x hx => by
  have := padded_eq (k + 7) u h
  rw [hx]; simpa using this

def datT (y m d : Nat) : ByteArray := (((⟨(Lib.decDigits y).toArray⟩ ++ (⟨#[45]⟩ : ByteArray)) ++ twoT m) ++ (⟨#[45]⟩ : ByteArray)) ++ twoT d

theorem digs_arr4 (u : Nat) (h : u < 10000) : ∃ D : ByteArray, (⟨(Lib.decDigits u).toArray⟩ : ByteArray) = D ∧ D.size ≤ 4 := ⟨_, rfl, by rw [ba_size]; exact digs_len 3 u (by omega)⟩

theorem spec_l07Text_eq (k y m d : Nat) (hy : y < 10000) (hm : m < 100) (hd : d < 100) : spec_l07Text.f (k + 10) (y : Int) (m : Int) (d : Int) = some (datT y m d) := by
  have h1 := dec_eq 3 y (by omega) (by omega) (k + 10) (by omega)
  have h2 := spec_two_text m hm
  have h3 := spec_two_text d hd
  unfold spec_l07Text.f datT
  obtain ⟨D, eD, zD⟩ := digs_arr4 y hy
  obtain ⟨M, eM, zM⟩ := two_arr m
  obtain ⟨S, eS, zS⟩ := two_arr d
  rw [eD] at h1 ⊢; rw [eM] at h2 ⊢; rw [eS] at h3 ⊢
  simp only [h1, h2, h3, Option.bind_some, ByteArray.size_append, ba_one, zM, zS]
  rw [if_pos (show D.size + 1 ≤ 9223372036854775807 by omega), if_pos (show D.size + 1 + 2 ≤ 9223372036854775807 by omega), if_pos (show D.size + 1 + 2 + 1 ≤ 9223372036854775807 by omega), if_pos (show D.size + 1 + 2 + 1 + 2 ≤ 9223372036854775807 by omega)]

theorem impl_DateText_yes (k y m d : Nat) (hy : y < 10000) (hm : m < 100) (hd : d < 100) (hD : dat (y : Int) (m : Int) (d : Int)) : impl_DateText.f (k + 9) (y : Int) (m : Int) (d : Int) = some (datT y m d, 0) := by
  have h1 := decimal_eq (k + 9) y (by omega)
  have h2 := padded_eq9 k m hm _ rfl
  have h3 := padded_eq9 k d hd _ rfl
  have h0 := impl_IsDate_eq (k + 8) (y : Int) (m : Int) (d : Int)
  rw [show k + 8 + 1 = k + 9 from rfl, decide_eq_true hD] at h0
  unfold impl_DateText.f datT
  obtain ⟨D, eD, zD⟩ := digs_arr4 y hy
  obtain ⟨M, eM, zM⟩ := two_arr m
  obtain ⟨S, eS, zS⟩ := two_arr d
  rw [eD] at h1 ⊢; rw [eM] at h2 ⊢; rw [eS] at h3 ⊢
  simp only [h0, h1, h2, h3, Option.bind_some, if_true, ByteArray.size_append, ba_one, zM, zS]
  rw [if_pos (show D.size + 1 ≤ 9223372036854775807 by omega), if_pos (show D.size + 1 + 2 ≤ 9223372036854775807 by omega), if_pos (show D.size + 1 + 2 + 1 ≤ 9223372036854775807 by omega), if_pos (show D.size + 1 + 2 + 1 + 2 ≤ 9223372036854775807 by omega)]

def valD (a : Nat) (l : List UInt8) : Nat := l.foldl (fun x c => x * 10 + (c.toNat - 48)) a

theorem valD_nil (a : Nat) : valD a [] = a := rfl

theorem valD_cons (a : Nat) (c : UInt8) (r : List UInt8) : valD a (c :: r) = valD (a * 10 + (c.toNat - 48)) r := by unfold valD; rw [List.foldl_cons]

def isD (c : UInt8) : Prop := 48 ≤ c.toNat ∧ c.toNat ≤ 57

theorem valD_append (l m : List UInt8) (a : Nat) : valD a (l ++ m) = valD (valD a l) m := List.foldl_append

theorem valD_ge (l : List UInt8) : ∀ a : Nat, a ≤ valD a l := by
  induction l with
  | nil => intro a; exact Nat.le_refl _
  | cons c r ih =>
    intro a
    rw [valD_cons]
    have := ih (a * 10 + (c.toNat - 48))
    omega

theorem u8_dig (u : Nat) (h : u < 10) : (UInt8.ofNat (48 + u)).toNat = 48 + u := by
  rw [UInt8.toNat_ofNat']; omega

theorem digs_isD : ∀ (d u : Nat), u < 10 ^ (d + 1) → (∀ c ∈ Lib.decDigits u, isD c) ∧ valD 0 (Lib.decDigits u) = u ∧ 0 < (Lib.decDigits u).length := by
  intro d
  induction d with
  | zero =>
    intro u h
    rw [dig1 u (by omega)]
    have := u8_dig u (by omega)
    refine ⟨?_, ?_, by simp⟩
    · intro c hc
      rw [List.mem_singleton] at hc
      subst hc
      unfold isD; omega
    · rw [valD_cons, valD_nil]; omega
  | succ d ih =>
    intro u h
    by_cases c : u < 10
    · rw [dig1 u c]
      have := u8_dig u c
      refine ⟨?_, ?_, by simp⟩
      · intro c hc
        rw [List.mem_singleton] at hc
        subst hc
        unfold isD; omega
      · rw [valD_cons, valD_nil]; omega
    · rw [dig2 u (by omega)]
      obtain ⟨h1, h2, h3⟩ := ih (u / 10) (by rw [Nat.pow_succ] at h; omega)
      have := u8_dig (u % 10) (by omega)
      refine ⟨?_, ?_, by simp⟩
      · intro c hc
        rw [List.mem_append, List.mem_singleton] at hc
        rcases hc with hc | hc
        · exact h1 c hc
        · subst hc; unfold isD; omega
      · rw [valD_append, h2, valD_cons, valD_nil]; omega

theorem parse_digs (M : Nat) (l : List UInt8) : ∀ (a : Nat), (∀ c ∈ l, isD c) → valD a l ≤ M → valD a l < 10000000000000000000 → Lib.parseUintM M a l = .ok (valD a l) := by
  induction l with
  | nil => intro a _ _ _; rfl
  | cons c r ih =>
    intro a hd hM hT
    have hc := hd c (by simp)
    unfold isD at hc
    rw [valD_cons] at hM hT ⊢
    have hg := valD_ge r (a * 10 + (c.toNat - 48))
    rw [Lib.parseUintM, if_pos hc, if_neg (by omega), if_neg (by omega)]
    exact ih _ (fun x hx => hd x (by simp [hx])) hM hT

theorem parse_dec (u : Nat) (h : u < 1000000000000000000) : Lib.parseUintB 64 (Lib.decDigits u) = .ok u := by
  obtain ⟨h1, h2, h3⟩ := digs_isD 17 u (by omega)
  unfold Lib.parseUintB
  rw [if_neg (by intro e; rw [e] at h3; simp at h3), parse_digs _ _ 0 h1 (by rw [h2]; omega) (by rw [h2]; omega), h2]

theorem parse_itoa (v : Int) (h0 : -1000000000000000000 < v) (h1 : v < 1000000000000000000) : Lib.parseIntB 64 (Lib.itoa v) = .ok v := by
  have hp := parse_dec v.natAbs (by omega)
  unfold Lib.itoa
  by_cases c : v < 0
  · rw [if_pos c, Lib.parseIntB_minus, hp, Lib.signedC, if_neg (by omega)]
    congr 1; omega
  · rw [if_neg c, show v.toNat = v.natAbs by omega]
    obtain ⟨d1, d2, d3⟩ := digs_isD 17 v.natAbs (by omega)
    cases e : Lib.decDigits v.natAbs with
    | nil => rw [e] at d3; simp at d3
    | cons b r =>
      rw [e] at d1 hp
      have hb := d1 b (by simp)
      unfold isD at hb
      rw [Lib.parseIntB_plain 64 b r (by omega) (by omega), hp, Lib.signlessC, if_neg (by omega)]
      congr 1; omega

def encI (x : Int) : ByteArray := ⟨(Lib.itoa x).toArray⟩

theorem ba_eq {s t : ByteArray} (h : (s.toList == t.toList) = true) : s = t := by
  have h := beq_iff_eq.1 h
  rw [ByteArray.toList_eq, ByteArray.toList_eq] at h
  obtain ⟨⟨a⟩⟩ := s
  obtain ⟨⟨b⟩⟩ := t
  simp at h
  rw [h]

theorem ba_beq (s : ByteArray) : (s.toList == s.toList) = true := beq_self_eq_true _

theorem itoa_len19 (v : Int) (h0 : -1000000000000000000 < v) (h1 : v < 1000000000000000000) : (Lib.itoa v).length ≤ 19 := by
  have := digs_len 17 v.natAbs (by omega)
  unfold Lib.itoa
  split
  · simp only [List.length_cons]; omega
  · rw [show v.toNat = v.natAbs by omega]; omega

/-- impl: total, and what it accepts is canonical. -/
theorem readDec_total (k : Nat) (w : ByteArray) : ∃ r, impl_readDecimal.f k w = some r ∧ (r.2 = true → w = encI r.1) := by
  unfold impl_readDecimal.f
  by_cases c : w.size > 19
  · exact ⟨_, by rw [if_pos c], fun h => absurd h (by simp)⟩
  · rw [if_neg c]
    cases hp : Lib.parseIntB 64 w.data.toList
    · rename_i v
      have hb := Lib.parseIntB_bounds hp
      have e : (2 : Nat) ^ (64 - 1) = 9223372036854775808 := by decide
      rw [e] at hb
      have hd : impl_decimal.f k v = some (encI v) := by unfold impl_decimal.f encI; rw [if_pos (by omega), if_pos (by omega)]
      refine ⟨(v, (encI v).toList == w.toList), ?_, fun h => (ba_eq h).symm⟩
      simp only [hd, Option.bind_some]
    · exact ⟨_, rfl, fun h => absurd h (by simp)⟩
    · exact ⟨_, rfl, fun h => absurd h (by simp)⟩

theorem readDec_of (k : Nat) (v : Int) (h0 : -1000000000000000000 < v) (h1 : v < 1000000000000000000) : impl_readDecimal.f k (encI v) = some (v, true) := by
  have hl := itoa_len19 v h0 h1
  have hp := parse_itoa v h0 h1
  have hd : impl_decimal.f k v = some (encI v) := by unfold impl_decimal.f encI; rw [if_pos (by omega), if_pos (by omega)]
  unfold impl_readDecimal.f
  rw [if_neg (by unfold encI; rw [ba_size]; omega)]
  have e : (encI v).data.toList = Lib.itoa v := by unfold encI; simp
  rw [e, hp]
  simp only [hd, Option.bind_some, ba_beq]
/-! spec -/

theorem bt_nat (w : ByteArray) (i : Nat) (h : i < w.size) : bt w (i : Int) = (w.data.toList[i]'(by rw [data_length]; exact h)).toNat := by
  unfold bt
  rw [dif_pos (by simpa using h)]
  rfl

def mkB (l : List UInt8) : ByteArray := ⟨l.toArray⟩

theorem data_mkB (l : List UInt8) : (mkB l).data.toList = l := by simp [mkB]

/-- A text cut at every occurrence of a byte; cur: the piece that has begun. -/
def cutAt (c : UInt8) : List UInt8 → List UInt8 → List (List UInt8)
  | cur, [] => [cur]
  | cur, b :: r => if b = c then cur :: cutAt c [] r else cutAt c (cur ++ [b]) r

theorem pre_one (b c : UInt8) (l : List UInt8) : List.isPrefixOf [c] (b :: l) = (c == b) := by simp [List.isPrefixOf]

theorem cutAt_index (c : UInt8) : ∀ (l cur : List UInt8),
    (Lib.index l [c] = -1 ∧ cutAt c cur l = [cur ++ l] ∧ l.count c = 0) ∨ (∃ i : Nat, Lib.index l [c] = (i : Int) ∧ cutAt c cur l = (cur ++ l.take i) :: cutAt c [] (l.drop (i + 1)) ∧ l.count c = (l.drop (i + 1)).count c + 1)
  | [], cur => .inl ⟨rfl, by simp [cutAt], rfl⟩
  | b :: r, cur => by
    by_cases h : b = c
    · subst h
      refine .inr ⟨0, ?_, ?_, ?_⟩
      · rw [Lib.index, pre_one, if_pos (beq_self_eq_true b)]; rfl
      · rw [cutAt, if_pos rfl]; simp
      · simp
    · have hb : (c == b) = false := beq_eq_false_iff_ne.2 (fun e => h e.symm)
      rcases cutAt_index c r (cur ++ [b]) with ⟨h1, h2, h3⟩ | ⟨i, h1, h2, h3⟩
      · refine .inl ⟨?_, ?_, ?_⟩
        · rw [Lib.index, pre_one, hb, if_neg (by simp), h1]; rfl
        · rw [cutAt, if_neg h, h2]; simp
        · rw [List.count_cons_of_ne h, h3]
      · refine .inr ⟨i + 1, ?_, ?_, ?_⟩
        · rw [Lib.index, pre_one, hb, if_neg (by simp), h1, if_neg (by simp)]; rfl
        · rw [cutAt, if_neg h, h2]; simp
        · rw [List.count_cons_of_ne h, h3]; simp

theorem splitK_cut (c : UInt8) : ∀ (k : Nat) (l : List UInt8), l.count c ≤ k → Lib.splitK [c] 0 k l = cutAt c [] l := by
  intro k
  induction k with
  | zero =>
    intro l h
    rcases cutAt_index c l [] with ⟨h1, h2, h3⟩ | ⟨i, h1, h2, h3⟩
    · rw [h2]; rfl
    · omega
  | succ k ih =>
    intro l h
    rcases cutAt_index c l [] with ⟨h1, h2, h3⟩ | ⟨i, h1, h2, h3⟩
    · rw [Lib.splitK, h1, h2]; rfl
    · rw [Lib.splitK, h1, h2, if_neg (by simp), ih _ (by simp; omega)]
      simp

theorem splitB_cut (c : UInt8) (s : ByteArray) : Lib.splitB (⟨#[c]⟩ : ByteArray) 0 (Lib.countB s (⟨#[c]⟩ : ByteArray)) s = (cutAt c [] s.data.toList).map mkB := by
  have h := Lib.splitB_data (⟨#[c]⟩ : ByteArray) 0 (Lib.countB s (⟨#[c]⟩ : ByteArray)) s
  rw [show (⟨#[c]⟩ : ByteArray).data.toList = [c] from rfl, splitK_cut c _ _ (by
    rw [show Lib.countB s (⟨#[c]⟩ : ByteArray) = Lib.count s.data.toList [c] from rfl, Lib.count_one]; exact Nat.le_refl _)] at h
  rw [← h, List.map_map]
  conv => lhs; rw [← List.map_id (Lib.splitB _ _ _ _)]
  exact List.map_congr_left fun x _ => rfl

def o8 (n : Nat) : UInt8 := UInt8.ofNat (48 + n)

theorem o8_nat (n : Nat) (h : n < 10) : (o8 n).toNat = 48 + n := u8_dig n h

theorem o8_ne (n : Nat) (c : UInt8) (h : n < 10) (hc : c.toNat < 48 ∨ 57 < c.toNat) : o8 n ≠ c := fun e => by
  have := o8_nat n h
  rw [e] at this; omega

theorem dig4 (Y : Nat) (h0 : 1000 ≤ Y) (h1 : Y < 10000) : Lib.decDigits Y = [o8 (Y / 1000), o8 (Y / 100 % 10), o8 (Y / 10 % 10), o8 (Y % 10)] := by
  rw [dig2 Y (by omega), dig2 (Y / 10) (by omega), dig2 (Y / 10 / 10) (by omega), dig1 (Y / 10 / 10 / 10) (by omega), show Y / 10 / 10 / 10 = Y / 1000 by omega, show Y / 10 / 10 % 10 = Y / 100 % 10 by omega]
  rfl

def dlist (Y M D : Nat) : List UInt8 := [o8 (Y / 1000), o8 (Y / 100 % 10), o8 (Y / 10 % 10), o8 (Y % 10), 45, o8 (M / 10), o8 (M % 10), 45, o8 (D / 10), o8 (D % 10)]

theorem datT_list (Y M D : Nat) (h0 : 1000 ≤ Y) (h1 : Y < 10000) : datT Y M D = mkB (dlist Y M D) := by
  unfold datT mkB dlist
  rw [dig4 Y h0 h1]
  rfl

theorem datT_data (Y M D : Nat) (h0 : 1000 ≤ Y) (h1 : Y < 10000) : (datT Y M D).data.toList = dlist Y M D := by rw [datT_list Y M D h0 h1, data_mkB]

theorem datT_size (Y M D : Nat) (h0 : 1000 ≤ Y) (h1 : Y < 10000) : (datT Y M D).size = 10 := by rw [← data_length, datT_data Y M D h0 h1]; rfl

theorem dat_nat4 {y m d : Int} (h : dat y m d) : ∃ Y M D : Nat, y = Y ∧ m = M ∧ d = D ∧ 1000 ≤ Y ∧ Y < 10000 ∧ M < 100 ∧ D < 100 := by
  have hb := dat_bounds h
  exact ⟨y.toNat, m.toNat, d.toNat, by omega, by omega, by omega, by omega, by omega, by omega, by omega⟩

/-- What both readings answer. -/
def dateAns (s : ByteArray) (r : Int × Int × Int × Int) : Prop :=
  r = (0, 0, 0, 6) ∨ ∃ Y M D : Nat, r = ((Y : Int), (M : Int), (D : Int), 0) ∧ dat (Y : Int) (M : Int) (D : Int) ∧ s = datT Y M D

theorem sd_step (s : ByteArray) (hs : s.size = 10) (k i : Nat) (x : Int) (hi : i < 10) (h4 : i ≠ 4) (h7 : i ≠ 7) (h0 : -1000000000000 ≤ x) (h1 : x ≤ 1000000000000) :
    spec_ReadDate.l0 (k + 1) s x (i : Int) = spec_ReadDate.l0 k s (10 * x + bt s (i : Int) - 48) ((i + 1 : Nat) : Int) := by
  have hr := bt_range s (i : Int)
  rw [spec_ReadDate.l0, if_pos (by omega), if_neg (by omega), if_neg (by omega), if_pos (by omega), if_pos (by omega), wid (10 * x) (by omega) (by omega), wid (bt s (i : Int)) (by omega) (by omega), wid (10 * x + bt s (i : Int)) (by omega) (by omega), wid (10 * x + bt s (i : Int) - 48) (by omega) (by omega), wid ((i : Int) + 1) (by omega) (by omega)]
  rfl

theorem sd_skip (s : ByteArray) (k i : Nat) (x : Int) (h : i = 4 ∨ i = 7) : spec_ReadDate.l0 (k + 1) s x (i : Int) = spec_ReadDate.l0 k s x ((i + 1 : Nat) : Int) := by
  rw [spec_ReadDate.l0, if_pos (by omega)]
  rcases h with rfl | rfl
  · rw [if_pos (by omega), wid _ (by omega) (by omega)]; rfl
  · rw [if_neg (by omega), if_pos (by omega), wid _ (by omega) (by omega)]; rfl

theorem sd_end (s : ByteArray) (k : Nat) (x : Int) : ∃ r, spec_ReadDate.l0 (k + 11) s x ((10 : Nat) : Int) = some r ∧ dateAns s r := by
  rw [spec_ReadDate.l0, if_neg (by omega), spec_IsDate_eq]
  generalize wrap64 (Int.tdiv x 10000) = y
  generalize Int.tmod (wrap64 (Int.tdiv x 100)) 100 = m
  generalize Int.tmod x 100 = d
  simp only [Option.bind_some]
  by_cases c : dat y m d
  · obtain ⟨Y, M, D, rfl, rfl, rfl, hY0, hY, hM, hD⟩ := dat_nat4 c
    rw [if_pos (decide_eq_true c), spec_l07Text_eq k Y M D hY hM hD]
    simp only [Option.bind_some]
    by_cases e : (datT Y M D).toList = s.toList
    · rw [if_pos e]
      exact ⟨_, rfl, .inr ⟨Y, M, D, rfl, c, (ba_eq (beq_iff_eq.2 e)).symm⟩⟩
    · rw [if_neg e]
      exact ⟨_, rfl, .inl rfl⟩
  · rw [if_neg (by simpa using c)]
    exact ⟨_, rfl, .inl rfl⟩

theorem sd_total (s : ByteArray) (hs : s.size = 10) : ∀ (t i : Nat) (x : Int) (b : Int), i + t = 10 → -b ≤ x → x ≤ b → 0 ≤ b → (b + 30) * 10 ^ t ≤ 1000000000000 → ∀ k, ∃ r, spec_ReadDate.l0 (k + t + 11) s x (i : Int) = some r ∧ dateAns s r := by
  intro t
  induction t with
  | zero =>
    intro i x b hi _ _ _ _ k
    have : i = 10 := by omega
    subst this
    exact sd_end s k x
  | succ t ih =>
    intro i x b hi h0 h1 hb hB k
    have hr := bt_range s (i : Int)
    have hp : (1 : Int) ≤ 10 ^ t := by
      have : (0 : Int) < 10 ^ t := Int.pow_pos (by omega)
      omega
    have hs' : (10 : Int) ^ (t + 1) = 10 ^ t * 10 := Int.pow_succ 10 t
    rw [hs'] at hB
    have hb2 : (10 * b + 207 + 30) * 10 ^ t ≤ 1000000000000 := by
      have e : (10 * b + 207 + 30) * 10 ^ t ≤ (b + 30) * (10 ^ t * 10) := by
        rw [show (b + 30) * ((10 : Int) ^ t * 10) = ((b + 30) * 10) * 10 ^ t by rw [Int.mul_comm ((10 : Int) ^ t) 10, ← Int.mul_assoc]]
        exact Int.mul_le_mul_of_nonneg_right (by omega) (by omega)
      omega
    have hx : b ≤ 1000000000000 := by
      have e : b * 1 ≤ (b + 30) * (10 ^ t * 10) := Int.mul_le_mul (by omega) (by omega) (by omega) (by omega)
      omega
    rw [show k + (t + 1) + 11 = (k + t + 11) + 1 by omega]
    by_cases c : i = 4 ∨ i = 7
    · rw [sd_skip s _ i x c]
      exact ih (i + 1) x (10 * b + 207) (by omega) (by omega) (by omega) (by omega) hb2 k
    · rw [sd_step s hs _ i x (by omega) (by omega) (by omega) (by omega) (by omega)]
      exact ih (i + 1) _ (10 * b + 207) (by omega) (by omega) (by omega) (by omega) hb2 k

theorem spec_ReadDate_total (s : ByteArray) (k : Nat) : ∃ r, spec_ReadDate.f (k + 21) s = some r ∧ dateAns s r := by
  unfold spec_ReadDate.f
  by_cases c : (s.size : Int) = 10
  · rw [if_pos c]
    exact sd_total s (by omega) 10 0 0 0 (by omega) (by omega) (by omega) (by omega) (by decide) k
  · rw [if_neg c]
    exact ⟨_, rfl, .inl rfl⟩

theorem spec_ReadDate_of (Y M D : Nat) (h : dat (Y : Int) (M : Int) (D : Int)) (k : Nat) : spec_ReadDate.f (k + 21) (datT Y M D) = some ((Y : Int), (M : Int), (D : Int), 0) := by
  have hb := dat_bounds h
  have hY0 : 1000 ≤ Y := by omega
  have hY1 : Y < 10000 := by omega
  have hz := datT_size Y M D hY0 hY1
  have hd := datT_data Y M D hY0 hY1
  have ht := spec_l07Text_eq k Y M D (by omega) (by omega) (by omega)
  have g : ∀ (i : Nat) (n : Nat), n < 10 → (dlist Y M D)[i]? = some (o8 n) → bt (datT Y M D) (i : Int) = 48 + (n : Int) := fun i n hn e => by
    obtain ⟨hi, e⟩ := List.getElem?_eq_some_iff.1 e
    have hi' : i < (datT Y M D).size := by rw [hz]; exact hi
    rw [bt_nat _ i hi']
    have : (datT Y M D).data.toList[i]'(by rw [data_length]; exact hi') = o8 n := by
      rw [← e]
      congr 1
    rw [this, o8_nat n hn]; omega
  generalize datT Y M D = s at hz g ht
  unfold spec_ReadDate.f
  rw [if_pos (by omega)]
  have s0 := sd_step s hz (k + 20) 0 0 (by omega) (by omega) (by omega) (by omega) (by omega)
  rw [g 0 (Y / 1000) (by omega) rfl] at s0
  have s1 := sd_step s hz (k + 19) 1 (10 * 0 + (48 + ((Y / 1000 : Nat) : Int)) - 48) (by omega) (by omega) (by omega) (by omega) (by omega)
  rw [g 1 (Y / 100 % 10) (by omega) rfl] at s1
  rw [show ((0 : Nat) : Int) = 0 from rfl] at s0
  rw [s0, s1]
  rw [sd_step s hz (k + 18) 2 _ (by omega) (by omega) (by omega) (by omega) (by omega), g 2 (Y / 10 % 10) (by omega) rfl]
  rw [sd_step s hz (k + 17) 3 _ (by omega) (by omega) (by omega) (by omega) (by omega), g 3 (Y % 10) (by omega) rfl]
  rw [sd_skip s (k + 16) 4 _ (by omega)]
  rw [sd_step s hz (k + 15) 5 _ (by omega) (by omega) (by omega) (by omega) (by omega), g 5 (M / 10) (by omega) rfl]
  rw [sd_step s hz (k + 14) 6 _ (by omega) (by omega) (by omega) (by omega) (by omega), g 6 (M % 10) (by omega) rfl]
  rw [sd_skip s (k + 13) 7 _ (by omega)]
  rw [sd_step s hz (k + 12) 8 _ (by omega) (by omega) (by omega) (by omega) (by omega), g 8 (D / 10) (by omega) rfl]
  rw [sd_step s hz (k + 11) 9 _ (by omega) (by omega) (by omega) (by omega) (by omega), g 9 (D % 10) (by omega) rfl]
  generalize hX : 10 * (10 * (10 * (10 * (10 * (10 * (10 * (10 * 0 + (48 + ((Y / 1000 : Nat) : Int)) - 48) + (48 + ((Y / 100 % 10 : Nat) : Int)) - 48) + (48 + ((Y / 10 % 10 : Nat) : Int)) - 48) + (48 + ((Y % 10 : Nat) : Int)) - 48) + (48 + ((M / 10 : Nat) : Int)) - 48) + (48 + ((M % 10 : Nat) : Int)) - 48) + (48 + ((D / 10 : Nat) : Int)) - 48) + (48 + ((D % 10 : Nat) : Int)) - 48 = X
  have hX2 : X = 10000 * (Y : Int) + 100 * (M : Int) + (D : Int) := by omega
  rw [spec_ReadDate.l0, if_neg (by omega), tdivP _ _ (by omega), tdivP _ _ (by omega), wid (X / 10000) (by omega) (by omega), wid (X / 100) (by omega) (by omega), tmodP _ _ (by omega), tmodP _ _ (by omega), show X / 10000 = (Y : Int) by omega, show X / 100 % 100 = (M : Int) by omega, show X % 100 = (D : Int) by omega, spec_IsDate_eq, decide_eq_true h]
  simp only [Option.bind_some, if_true]
  rw [ht]
  simp
/-! impl -/

theorem two_val (u : Nat) (h : u < 100) : impl_two.f (twoT u) = some (u : Int) := by
  unfold impl_two.f
  have h0 := bt_nat (twoT u) 0 (by rw [two_size]; omega)
  have h1 := bt_nat (twoT u) 1 (by rw [two_size]; omega)
  have e0 : bt (twoT u) 0 = 48 + ((u / 10 : Nat) : Int) := by
    rw [show (0 : Int) = ((0 : Nat) : Int) from rfl, h0]
    have := o8_nat (u / 10) (by omega)
    show (((o8 (u / 10)).toNat : Nat) : Int) = _
    omega
  have e1 : bt (twoT u) 1 = 48 + ((u % 10 : Nat) : Int) := by
    rw [show (1 : Int) = ((1 : Nat) : Int) from rfl, h1]
    have := o8_nat (u % 10) (by omega)
    show (((o8 (u % 10)).toNat : Nat) : Int) = _
    omega
  rw [if_pos (by rw [two_size]; omega), e0, e1, wid (48 + ((u / 10 : Nat) : Int)) (by omega) (by omega), wid (48 + ((u / 10 : Nat) : Int) - 48) (by omega) (by omega), wid (10 * _) (by omega) (by omega), wid (48 + ((u % 10 : Nat) : Int)) (by omega) (by omega), wid (10 * _ + _) (by omega) (by omega), wid _ (by omega) (by omega)]
  congr 1; omega

theorem impl_two_some (w : ByteArray) (h : (w.size : Int) = 2) : ∃ v, impl_two.f w = some v := by
  unfold impl_two.f
  exact ⟨_, by rw [if_pos (by omega)]⟩

theorem impl_DateText_all (k : Nat) (y m d : Int) : ∃ r, impl_DateText.f (k + 9) y m d = some r ∧ (r.2 = 0 → ∃ Y M D : Nat, y = Y ∧ m = M ∧ d = D ∧ dat y m d ∧ r.1 = datT Y M D) := by
  by_cases c : dat y m d
  · obtain ⟨Y, M, D, rfl, rfl, rfl, hY0, hY, hM, hD⟩ := dat_nat4 c
    exact ⟨_, impl_DateText_yes k Y M D hY hM hD c, fun _ => ⟨Y, M, D, rfl, rfl, rfl, c, rfl⟩⟩
  · have h0 := impl_IsDate_eq (k + 8) y m d
    rw [show k + 8 + 1 = k + 9 from rfl, decide_eq_false c] at h0
    unfold impl_DateText.f
    rw [h0]
    exact ⟨_, rfl, fun h => absurd h (by simp)⟩

theorem impl_ReadDate_total (s : ByteArray) (hs : s.size ≤ 1048576) (k : Nat) : ∃ r, impl_ReadDate.f (k + 9) s = some r ∧ dateAns s r := by
  unfold impl_ReadDate.f
  rw [if_pos (by omega)]
  split
  · rename_i a b c _
    unfold impl_ReadDate.p
    by_cases c1 : (b.size : Int) = 2
    · rw [if_pos c1]
      by_cases c2 : (c.size : Int) = 2
      · rw [if_pos c2]
        obtain ⟨⟨y, ok⟩, e1, q1⟩ := readDec_total (k + 9) a
        obtain ⟨m, e2⟩ := impl_two_some b c1
        obtain ⟨d, e3⟩ := impl_two_some c c2
        obtain ⟨⟨t, code⟩, e4, q4⟩ := impl_DateText_all k y m d
        rw [e1]
        simp only [Option.bind_some]
        rw [e2]
        simp only [Option.bind_some]
        rw [e3]
        simp only [Option.bind_some]
        rw [e4]
        simp only [Option.bind_some]
        by_cases c5 : ok = true
        · rw [if_pos c5]
          by_cases c6 : code = 0
          · rw [if_pos c6]
            by_cases c7 : t.toList = s.toList
            · rw [if_pos c7]
              obtain ⟨Y, M, D, rfl, rfl, rfl, hD, hT⟩ := q4 c6
              refine ⟨_, rfl, .inr ⟨Y, M, D, rfl, hD, ?_⟩⟩
              have e : t = s := ba_eq (beq_iff_eq.2 c7)
              rw [← e]; exact hT
            · rw [if_neg c7]; exact ⟨_, rfl, .inl rfl⟩
          · rw [if_neg c6]; exact ⟨_, rfl, .inl rfl⟩
        · rw [if_neg c5]; exact ⟨_, rfl, .inl rfl⟩
      · rw [if_neg c2]; exact ⟨_, rfl, .inl rfl⟩
    · rw [if_neg c1]; exact ⟨_, rfl, .inl rfl⟩
  · exact ⟨_, rfl, .inl rfl⟩

theorem cut_date (Y M D : Nat) (hY : Y < 10000) (hM : M < 100) (hD : D < 100) : cutAt 45 [] (dlist Y M D) = [[o8 (Y / 1000), o8 (Y / 100 % 10), o8 (Y / 10 % 10), o8 (Y % 10)], [o8 (M / 10), o8 (M % 10)], [o8 (D / 10), o8 (D % 10)]] := by
  have hn : ∀ n, n < 10 → o8 n ≠ 45 := fun n h => o8_ne n 45 h (.inl (by decide))
  unfold dlist
  simp only [cutAt, if_neg (hn (Y / 1000) (by omega)), if_neg (hn (Y / 100 % 10) (by omega)), if_neg (hn (Y / 10 % 10) (by omega)), if_neg (hn (Y % 10) (by omega)), if_neg (hn (M / 10) (by omega)), if_neg (hn (M % 10) (by omega)), if_neg (hn (D / 10) (by omega)), if_neg (hn (D % 10) (by omega)), if_true, List.nil_append, List.cons_append]

theorem date_p_of (k : Nat) (s a b c : ByteArray) (y m d : Int) (hb : (b.size : Int) = 2) (hc : (c.size : Int) = 2) (h1 : impl_readDecimal.f k a = some (y, true)) (h2 : impl_two.f b = some m) (h3 : impl_two.f c = some d) (h4 : impl_DateText.f k y m d = some (s, 0)) : impl_ReadDate.p k s a b c = some (y, m, d, 0) := by
  unfold impl_ReadDate.p
  rw [if_pos hb, if_pos hc, h1]
  simp only [Option.bind_some]
  rw [h2]
  simp only [Option.bind_some]
  rw [h3]
  simp only [Option.bind_some]
  rw [h4]
  simp

theorem impl_ReadDate_of (Y M D : Nat) (h : dat (Y : Int) (M : Int) (D : Int)) (k : Nat) : impl_ReadDate.f (k + 9) (datT Y M D) = some ((Y : Int), (M : Int), (D : Int), 0) := by
  have hb := dat_bounds h
  have hY0 : 1000 ≤ Y := by omega
  have hY1 : Y < 10000 := by omega
  have hz := datT_size Y M D hY0 hY1
  have hd := datT_data Y M D hY0 hY1
  have hsp := splitB_cut 45 (datT Y M D)
  rw [hd, cut_date Y M D hY1 (by omega) (by omega)] at hsp
  have e0 : mkB [o8 (Y / 1000), o8 (Y / 100 % 10), o8 (Y / 10 % 10), o8 (Y % 10)] = encI (Y : Int) := by unfold encI mkB; rw [itoa_nat, dig4 Y hY0 hY1]
  have e1 : mkB [o8 (M / 10), o8 (M % 10)] = twoT M := rfl
  have e2 : mkB [o8 (D / 10), o8 (D % 10)] = twoT D := rfl
  simp only [List.map_cons, List.map_nil, e0, e1, e2] at hsp
  have ht := impl_DateText_yes k Y M D (by omega) (by omega) (by omega) h
  unfold impl_ReadDate.f
  rw [if_pos (by omega), hsp]
  simp only
  exact date_p_of (k + 9) _ _ _ _ _ _ _ (by rw [two_size]; omega) (by rw [two_size]; omega) (readDec_of (k + 9) (Y : Int) (by omega) (by omega)) (two_val M (by omega)) (two_val D (by omega)) ht

theorem date_read_same (s : ByteArray) (hs : s.size ≤ 1048576) (k j : Nat) : ∃ r, spec_ReadDate.f (k + 21) s = some r ∧ impl_ReadDate.f (j + 9) s = some r ∧ dateAns s r := by
  obtain ⟨r, e1, a1⟩ := spec_ReadDate_total s k
  obtain ⟨q, e2, a2⟩ := impl_ReadDate_total s hs j
  refine ⟨r, e1, ?_, a1⟩
  rcases a1 with rfl | ⟨Y, M, D, rfl, hD, rfl⟩
  · rcases a2 with rfl | ⟨Y, M, D, rfl, hD, rfl⟩
    · exact e2
    · have := spec_ReadDate_of Y M D hD k
      rw [this] at e1
      simp at e1
  · exact impl_ReadDate_of Y M D hD j

theorem FnExactReadDate (s : ByteArray) (h8 : s.size ≤ 140737488351232) : ∃ k, laws_FnExactReadDate.f k s = some true := by
  refine ⟨100, ?_⟩
  unfold laws_FnExactReadDate.f
  by_cases c : (s.size : Int) > 1048576
  · rw [if_pos c]
  · rw [if_neg c]
    obtain ⟨r, e1, e2, _⟩ := date_read_same s (by omega) 79 91
    rw [show 79 + 21 = 100 from rfl] at e1
    rw [show 91 + 9 = 100 from rfl] at e2
    rw [e1]
    simp only [Option.bind_some]
    rw [e2]
    simp only [Option.bind_some]
    unfold laws_eqDate.f
    simp

end Go.Proofs.YtjheehbejehlaaaDoor.Pure
