/- Proved: for every argument the law FnExactAngleText returns true. Conditions: none. -/
import Derived.Test.YtjheehbejehlaaaDoorQFnExactAngleTextx2
namespace Go.Proofs.YtjheehbejehlaaaDoor.Pure
open Go.RowKit Go.Proofs.YtjheehbejehlaaaDoor.PFnExactAngleText Go.Proofs.YtjheehbejehlaaaDoorW.PrintWords Go.Proofs.YtjheehbejehlaaaDoorW.PrintLast Go.Proofs.YtjheehbejehlaaaDoorW.PrintMore
set_option linter.unusedVariables false
set_option linter.unusedSimpArgs false

theorem wid (n : Int) (h0 : -9223372036854775808 ≤ n) (h1 : n ≤ 9223372036854775807) : wrap64 n = n := by unfold wrap64; omega

theorem tmodP (a b : Int) (h : 0 ≤ a) : a.tmod b = a % b := Int.tmod_eq_emod_of_nonneg h

theorem tdivP (a b : Int) (h : 0 ≤ a) : a.tdiv b = a / b := Int.tdiv_eq_ediv_of_nonneg h

theorem impl_in_eq (n lo hi : Int) : impl_in.f n lo hi = some (decide (lo ≤ n ∧ n ≤ hi)) := by
  unfold impl_in.f; by_cases h : n ≥ lo
  · rw [if_pos h]; simp [show lo ≤ n from h]
  · rw [if_neg h]; simp [show ¬ lo ≤ n from h]

theorem spec_in_eq (n lo hi : Int) : spec_l01In.f n lo hi = some (decide (lo ≤ n ∧ n ≤ hi)) := by
  unfold spec_l01In.f; by_cases h : n ≥ lo
  · rw [if_pos h]; simp [show lo ≤ n from h]
  · rw [if_neg h]; simp [show ¬ lo ≤ n from h]

theorem dig1 (u : Nat) (h : u < 10) : Lib.decDigits u = [UInt8.ofNat (48 + u)] := by rw [Lib.decDigits, dif_pos h]

theorem dig2 (u : Nat) (h0 : 10 ≤ u) : Lib.decDigits u = Lib.decDigits (u / 10) ++ [UInt8.ofNat (48 + u % 10)] := by rw [Lib.decDigits, dif_neg (by omega)]

theorem digs_len : ∀ (d u : Nat), u < 10 ^ (d + 1) → (Lib.decDigits u).length ≤ d + 1 := by
  intro d
  induction d with
  | zero => intro u h; rw [dig1 u (by omega)]; simp
  | succ d ih =>
    intro u h
    by_cases c : u < 10
    · rw [dig1 u c]; simp
    · rw [dig2 u (by omega)]
      have := ih (u / 10) (by rw [Nat.pow_succ] at h; omega)
      simp only [List.length_append, List.length_cons, List.length_nil]; omega

theorem nums1 (x : Int) : strOfNums [x] = ⟨#[UInt8.ofNat x.toNat]⟩ := by simp [strOfNums]

theorem nums2 (x y : Int) : strOfNums [x, y] = ⟨#[UInt8.ofNat x.toNat, UInt8.ofNat y.toNat]⟩ := by simp [strOfNums]

theorem ba_append (l m : List UInt8) : (⟨l.toArray⟩ : ByteArray) ++ (⟨m.toArray⟩ : ByteArray) = ⟨(l ++ m).toArray⟩ := by
  apply ByteArray.ext
  simp [ByteArray.data_append]

theorem ba_size (l : List UInt8) : (⟨l.toArray⟩ : ByteArray).size = l.length := by simp [ByteArray.size]

/-- The specification's decimal numeral is the library's. -/
theorem dec_eq : ∀ (d : Nat) (u : Nat), u < 10 ^ (d + 1) → d ≤ 17 → ∀ k, d < k → spec_l01Dec.f k (u : Int) = some ⟨(Lib.decDigits u).toArray⟩ := by
  intro d
  induction d with
  | zero =>
    intro u h _ k hk
    obtain ⟨k, rfl⟩ : ∃ m, k = m + 1 := ⟨k - 1, by omega⟩
    rw [spec_l01Dec.f, if_pos (by omega), nums1, wid (48 + (u : Int)) (by omega) (by omega), dig1 u (by omega), show ((48 + (u : Int)) % 256).toNat = 48 + u by omega]
  | succ d ih =>
    intro u h hd k hk
    obtain ⟨k, rfl⟩ : ∃ m, k = m + 1 := ⟨k - 1, by omega⟩
    have hb : u < 10 ^ 18 := Nat.lt_of_lt_of_le h (Nat.pow_le_pow_right (by omega) (by omega))
    by_cases c : u < 10
    · rw [spec_l01Dec.f, if_pos (by omega), nums1, wid (48 + (u : Int)) (by omega) (by omega), dig1 u c, show ((48 + (u : Int)) % 256).toNat = 48 + u by omega]
    · have e1 : wrap64 (Int.tdiv (u : Int) 10) = ((u / 10 : Nat) : Int) := by rw [tdivP _ _ (by omega), wid _ (by omega) (by omega)]; omega
      have e2 : Int.tmod (u : Int) 10 = ((u % 10 : Nat) : Int) := by rw [tmodP _ _ (by omega)]; omega
      have hlen := digs_len d (u / 10) (by rw [Nat.pow_succ] at h; omega)
      rw [spec_l01Dec.f, if_neg (by omega), e1, ih (u / 10) (by rw [Nat.pow_succ] at h; omega) (by omega) k (by omega), e2, wid (48 + ((u % 10 : Nat) : Int)) (by omega) (by omega)]
      simp only [Option.bind_some]
      rw [nums1, show ((48 + ((u % 10 : Nat) : Int)) % 256).toNat = 48 + u % 10 by omega, if_pos (by rw [ba_size]; show _ + 1 ≤ _; omega), dig2 u (by omega)]
      exact congrArg some (ba_append _ [_])

theorem itoa_nat (u : Nat) : Lib.itoa (u : Int) = Lib.decDigits u := by unfold Lib.itoa; rw [if_neg (by omega)]; simp

theorem decimal_eq (k u : Nat) (h : u < 10 ^ 18) : impl_decimal.f k (u : Int) = some ⟨(Lib.decDigits u).toArray⟩ := by
  unfold impl_decimal.f; rw [if_pos (by omega), if_pos (by omega), itoa_nat]

def twoT (u : Nat) : ByteArray := ⟨#[UInt8.ofNat (48 + u / 10), UInt8.ofNat (48 + u % 10)]⟩

theorem spec_two_text (u : Nat) (h : u < 100) : spec_l03Two.f (u : Int) = some (twoT u) := by
  unfold spec_l03Two.f twoT
  rw [tdivP _ _ (by omega), tmodP _ _ (by omega), wid ((u : Int) / 10) (by omega) (by omega), wid (48 + (u : Int) / 10) (by omega) (by omega), wid (48 + (u : Int) % 10) (by omega) (by omega), nums2,
    show ((48 + (u : Int) / 10) % 256).toNat = 48 + u / 10 by omega, show ((48 + (u : Int) % 10) % 256).toNat = 48 + u % 10 by omega]

theorem padded_eq (k u : Nat) (h : u < 100) : impl_padded.f (k + 2) (u : Int) 2 = some (twoT u) := by
  unfold impl_padded.f twoT
  rw [decimal_eq _ u (by omega)]
  simp only [Option.bind_some]
  by_cases c : u < 10
  · rw [dig1 u c, impl_padded.l0, if_pos (by rw [ba_size]; simp), if_pos (by rw [ba_size]; simp), show (⟨#[48]⟩ : ByteArray) ++ ⟨[UInt8.ofNat (48 + u)].toArray⟩ = ⟨[48, UInt8.ofNat (48 + u)].toArray⟩ from ba_append [48] _, impl_padded.l0, if_neg (by rw [ba_size]; simp), show u / 10 = 0 by omega, show u % 10 = u by omega]
    rfl
  · rw [dig2 u (by omega), dig1 (u / 10) (by omega), impl_padded.l0, if_neg (by rw [ba_size]; simp)]
    rfl

def angT (a : Int) : ByteArray := ((((((if a < 0 then (⟨#[45]⟩ : ByteArray) else (⟨#[]⟩ : ByteArray)) ++ (⟨(Lib.decDigits (a.natAbs / 3600)).toArray⟩ : ByteArray)) ++ (⟨#[100]⟩ : ByteArray)) ++ twoT (a.natAbs / 60 % 60)) ++ (⟨#[109]⟩ : ByteArray)) ++ twoT (a.natAbs % 60)) ++ (⟨#[115]⟩ : ByteArray)

theorem ba_one (x : UInt8) : (⟨#[x]⟩ : ByteArray).size = 1 := rfl

theorem ba_none : (⟨#[]⟩ : ByteArray).size = 0 := rfl

theorem digs_arr (u : Nat) (h : u < 1000) : ∃ D : ByteArray, (⟨(Lib.decDigits u).toArray⟩ : ByteArray) = D ∧ D.size ≤ 3 := ⟨_, rfl, by rw [ba_size]; exact digs_len 2 u (by omega)⟩

theorem two_arr (u : Nat) : ∃ D : ByteArray, twoT u = D ∧ D.size = 2 := ⟨_, rfl, rfl⟩

theorem l03Text_eq (k : Nat) (a : Int) (h0 : -648000 ≤ a) (h1 : a ≤ 1296000) : spec_l03Text.f (k + 10) a = some (angT a) := by
  have hD : ∀ x : Int, x = ((a.natAbs / 3600 : Nat) : Int) → spec_l01Dec.f (k + 10) x = some ⟨(Lib.decDigits (a.natAbs / 3600)).toArray⟩ := fun x hx => by rw [hx]; exact dec_eq 2 _ (by omega) (by omega) _ (by omega)
  have hM : ∀ x : Int, x = ((a.natAbs / 60 % 60 : Nat) : Int) → spec_l03Two.f x = some (twoT (a.natAbs / 60 % 60)) := fun x hx => by rw [hx]; exact spec_two_text _ (by omega)
  have hS : ∀ x : Int, x = ((a.natAbs % 60 : Nat) : Int) → spec_l03Two.f x = some (twoT (a.natAbs % 60)) := fun x hx => by rw [hx]; exact spec_two_text _ (by omega)
  unfold spec_l03Text.f angT
  obtain ⟨D, eD, zD⟩ := digs_arr (a.natAbs / 3600) (by omega)
  obtain ⟨M, eM, zM⟩ := two_arr (a.natAbs / 60 % 60)
  obtain ⟨S, eS, zS⟩ := two_arr (a.natAbs % 60)
  rw [eD] at hD ⊢; rw [eM] at hM ⊢; rw [eS] at hS ⊢
  by_cases c : a < 0
  · rw [if_pos c, wid (-a) (by omega) (by omega), tdivP _ _ (by omega), tdivP _ _ (by omega), wid (-a / 3600) (by omega) (by omega), wid (-a / 60) (by omega) (by omega), tmodP _ _ (by omega), tmodP _ _ (by omega), hD _ (by omega), hM _ (by omega), hS _ (by omega)]
    simp only [Option.bind_some, ByteArray.size_append, ba_one, if_pos c, zM, zS]
    rw [if_pos (show 1 + D.size ≤ 9223372036854775807 by omega), if_pos (show 1 + D.size + 1 ≤ 9223372036854775807 by omega), if_pos (show 1 + D.size + 1 + 2 ≤ 9223372036854775807 by omega), if_pos (show 1 + D.size + 1 + 2 + 1 ≤ 9223372036854775807 by omega), if_pos (show 1 + D.size + 1 + 2 + 1 + 2 ≤ 9223372036854775807 by omega), if_pos (show 1 + D.size + 1 + 2 + 1 + 2 + 1 ≤ 9223372036854775807 by omega)]
  · rw [if_neg c, tdivP _ _ (by omega), tdivP _ _ (by omega), wid (a / 3600) (by omega) (by omega), wid (a / 60) (by omega) (by omega), tmodP _ _ (by omega), tmodP _ _ (by omega), hD _ (by omega), hM _ (by omega), hS _ (by omega)]
    simp only [Option.bind_some, ByteArray.size_append, ba_one, ba_none, if_neg c, zM, zS]
    rw [if_pos (show 0 + D.size ≤ 9223372036854775807 by omega), if_pos (show 0 + D.size + 1 ≤ 9223372036854775807 by omega), if_pos (show 0 + D.size + 1 + 2 ≤ 9223372036854775807 by omega), if_pos (show 0 + D.size + 1 + 2 + 1 ≤ 9223372036854775807 by omega), if_pos (show 0 + D.size + 1 + 2 + 1 + 2 ≤ 9223372036854775807 by omega), if_pos (show 0 + D.size + 1 + 2 + 1 + 2 + 1 ≤ 9223372036854775807 by omega)]

theorem padded_eq9 (k u : Nat) (h : u < 100) : ∀ x : Int, x = (u : Int) → impl_padded.f (k + 9) x 2 = some (twoT u) := fun x hx => by
  have := padded_eq (k + 7) u h
  rw [hx]; simpa using this

theorem decimal_eq9 (k u : Nat) (h : u < 1000) : ∀ x : Int, x = (u : Int) → impl_decimal.f k x = some ⟨(Lib.decDigits u).toArray⟩ := fun x hx => by rw [hx]; exact decimal_eq k u (by omega)

theorem abs_eq (a : Int) (h0 : -648000 ≤ a) (h1 : a ≤ 1296000) : impl_abs.f a = some (a.natAbs : Int) := by
  unfold impl_abs.f mx; rw [wid (-a) (by omega) (by omega)]; congr 1; split <;> omega

theorem sign_size (a : Int) : (if a < 0 then (⟨#[45]⟩ : ByteArray) else (⟨#[]⟩ : ByteArray)).size ≤ 1 := by
  by_cases c : a < 0
  · rw [if_pos c, ba_one]; omega
  · rw [if_neg c, ba_none]; omega

theorem impl_AngleText_j (k : Nat) (a : Int) (h0 : -648000 ≤ a) (h1 : a ≤ 1296000) : impl_AngleText.j0 (k + 10) a (if a < 0 then (⟨#[45]⟩ : ByteArray) else (⟨#[]⟩ : ByteArray)) = some (angT a, 0) := by
  have hD := decimal_eq9 (k + 9) (a.natAbs / 3600) (by omega)
  have hM := padded_eq9 k (a.natAbs / 60 % 60) (by omega)
  have hS := padded_eq9 k (a.natAbs % 60) (by omega)
  have hA := abs_eq a h0 h1
  have hx := sign_size a
  unfold angT
  obtain ⟨D, eD, zD⟩ := digs_arr (a.natAbs / 3600) (by omega)
  obtain ⟨M, eM, zM⟩ := two_arr (a.natAbs / 60 % 60)
  obtain ⟨S, eS, zS⟩ := two_arr (a.natAbs % 60)
  rw [eD] at hD ⊢; rw [eM] at hM ⊢; rw [eS] at hS ⊢
  generalize (if a < 0 then (⟨#[45]⟩ : ByteArray) else (⟨#[]⟩ : ByteArray)) = X at hx ⊢
  have hb : ∃ b : Int, b = (a.natAbs : Int) := ⟨_, rfl⟩
  obtain ⟨b, hb⟩ := hb
  rw [← hb] at hA
  unfold impl_AngleText.j0
  simp only [hA, Option.bind_some]
  rw [tdivP _ _ (by omega), tdivP _ _ (by omega), wid (b / 3600) (by omega) (by omega), wid (b / 60) (by omega) (by omega), tmodP _ _ (by omega), tmodP _ _ (by omega), hD _ (by omega), hM _ (by omega), hS _ (by omega)]
  simp only [Option.bind_some, ByteArray.size_append, ba_one, zM, zS]
  rw [if_pos (show X.size + D.size ≤ 9223372036854775807 by omega), if_pos (show X.size + D.size + 1 ≤ 9223372036854775807 by omega), if_pos (show X.size + D.size + 1 + 2 ≤ 9223372036854775807 by omega), if_pos (show X.size + D.size + 1 + 2 + 1 ≤ 9223372036854775807 by omega), if_pos (show X.size + D.size + 1 + 2 + 1 + 2 ≤ 9223372036854775807 by omega), if_pos (show X.size + D.size + 1 + 2 + 1 + 2 + 1 ≤ 9223372036854775807 by omega)]

theorem spec_AngleText_eq (k : Nat) (a : Int) : spec_AngleText.f (k + 30) a = some (if -648000 ≤ a ∧ a ≤ 1296000 then (angT a, 0) else ((⟨#[]⟩ : ByteArray), 2)) := by
  unfold spec_AngleText.f
  rw [spec_in_eq]
  by_cases c : -648000 ≤ a ∧ a ≤ 1296000
  · simp only [Option.bind_some, if_pos (decide_eq_true c), if_pos c]
    rw [l03Text_eq (k + 20) a c.1 c.2]; rfl
  · simp [c]

theorem impl_AngleText_eq (k : Nat) (a : Int) : impl_AngleText.f (k + 30) a = some (if -648000 ≤ a ∧ a ≤ 1296000 then (angT a, 0) else ((⟨#[]⟩ : ByteArray), 2)) := by
  unfold impl_AngleText.f
  rw [impl_in_eq]
  by_cases c : -648000 ≤ a ∧ a ≤ 1296000
  · simp only [Option.bind_some, if_pos (decide_eq_true c), if_pos c]
    rw [← impl_AngleText_j (k + 20) a c.1 c.2]
    split <;> rfl
  · simp [c]

theorem FnExactAngleText : laws_FnExactAngleText.Pure := by
  intro a _
  refine ⟨30, ?_⟩
  unfold laws_FnExactAngleText.f
  rw [spec_AngleText_eq 0, impl_AngleText_eq 0]
  simp

end Go.Proofs.YtjheehbejehlaaaDoor.Pure
