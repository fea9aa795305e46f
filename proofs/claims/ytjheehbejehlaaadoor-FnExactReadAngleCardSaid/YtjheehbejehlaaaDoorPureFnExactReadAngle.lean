/- Proved: for every text the law FnExactReadAngle returns true. Conditions: none. -/
import Derived.Test.YtjheehbejehlaaaDoorQFnExactReadAnglex7
namespace Go.Proofs.YtjheehbejehlaaaDoor.Pure
open Go.RowKit Go.Proofs.YtjheehbejehlaaaDoor.PFnExactReadAngle Go.Proofs.YtjheehbejehlaaaDoorW.PrintWords Go.Proofs.YtjheehbejehlaaaDoorW.PrintLast Go.Proofs.YtjheehbejehlaaaDoorW.PrintMore
set_option linter.unusedVariables false
set_option linter.unusedSimpArgs false

theorem wid (n : Int) (h0 : -9223372036854775808 ≤ n) (h1 : n ≤ 9223372036854775807) : wrap64 n = n := by unfold wrap64; omega

theorem tmodP (a b : Int) (h : 0 ≤ a) : a.tmod b = a % b := Int.tmod_eq_emod_of_nonneg h

theorem tdivP (a b : Int) (h : 0 ≤ a) : a.tdiv b = a / b := Int.tdiv_eq_ediv_of_nonneg h

theorem impl_in_eq (n lo hi : Int) : impl_in.f n lo hi = some (decide (lo ≤ n ∧ n ≤ hi)) := by
  unfold impl_in.f; by_cases h : n ≥ lo
  · rw [if_pos h]; simp [show lo ≤ n from h]
  · rw [if_neg h]; simp [show ¬ lo ≤ n from h]

theorem spec_in_eq (n lo hi : Int) : spec_l01In.f n lo hi = some (decide (lo ≤ n ∧ n ≤ hi)) := by
  unfold spec_l01In.f; by_cases h : n ≥ lo
  · rw [if_pos h]; simp [show lo ≤ n from h]
  · rw [if_neg h]; simp [show ¬ lo ≤ n from h]

theorem dig1 (u : Nat) (h : u < 10) : Lib.decDigits u = [UInt8.ofNat (48 + u)] := by rw [Lib.decDigits, dif_pos h]

theorem dig2 (u : Nat) (h0 : 10 ≤ u) : Lib.decDigits u = Lib.decDigits (u / 10) ++ [UInt8.ofNat (48 + u % 10)] := by rw [Lib.decDigits, dif_neg (by omega)]

theorem digs_len : ∀ (d u : Nat), u < 10 ^ (d + 1) → (Lib.decDigits u).length ≤ d + 1 := by
  intro d
  induction d with
  | zero => intro u h; rw [dig1 u (by omega)]; simp
  | succ d ih =>
    intro u h
    by_cases c : u < 10
    · rw [dig1 u c]; simp
    · rw [dig2 u (by omega)]
      have := ih (u / 10) (by rw [Nat.pow_succ] at h; omega)
      simp only [List.length_append, List.length_cons, List.length_nil]; omega

theorem nums1 (x : Int) : strOfNums [x] = ⟨#[UInt8.ofNat x.toNat]⟩ := by simp [strOfNums]

theorem nums2 (x y : Int) : strOfNums [x, y] = ⟨#[UInt8.ofNat x.toNat, UInt8.ofNat y.toNat]⟩ := by simp [strOfNums]

theorem ba_append (l m : List UInt8) : (⟨l.toArray⟩ : ByteArray) ++ (⟨m.toArray⟩ : ByteArray) = ⟨(l ++ m).toArray⟩ := by
  apply ByteArray.ext
  simp [ByteArray.data_append]

theorem ba_size (l : List UInt8) : (⟨l.toArray⟩ : ByteArray).size = l.length := by simp [ByteArray.size]

/-- The specification's decimal numeral is the library's. -/
theorem dec_eq : ∀ (d : Nat) (u : Nat), u < 10 ^ (d + 1) → d ≤ 17 → ∀ k, d < k → spec_l01Dec.f k (u : Int) = some ⟨(Lib.decDigits u).toArray⟩ := by
  intro d
  induction d with
  | zero =>
    intro u h _ k hk
    obtain ⟨k, rfl⟩ : ∃ m, k = m + 1 := ⟨k - 1, by omega⟩
    rw [spec_l01Dec.f, if_pos (by omega), nums1, wid (48 + (u : Int)) (by omega) (by omega), dig1 u (by omega), show ((48 + (u : Int)) % 256).toNat = 48 + u by omega]
  | succ d ih =>
    intro u h hd k hk
    obtain ⟨k, rfl⟩ : ∃ m, k = m + 1 := ⟨k - 1, by omega⟩
    have hb : u < 10 ^ 18 := Nat.lt_of_lt_of_le h (Nat.pow_le_pow_right (by omega) (by omega))
    by_cases c : u < 10
    · rw [spec_l01Dec.f, if_pos (by omega), nums1, wid (48 + (u : Int)) (by omega) (by omega), dig1 u c, show ((48 + (u : Int)) % 256).toNat = 48 + u by omega]
    · have e1 : wrap64 (Int.tdiv (u : Int) 10) = ((u / 10 : Nat) : Int) := by rw [tdivP _ _ (by omega), wid _ (by omega) (by omega)]; omega
      have e2 : Int.tmod (u : Int) 10 = ((u % 10 : Nat) : Int) := by rw [tmodP _ _ (by omega)]; omega
      have hlen := digs_len d (u / 10) (by rw [Nat.pow_succ] at h; omega)
      rw [spec_l01Dec.f, if_neg (by omega), e1, ih (u / 10) (by rw [Nat.pow_succ] at h; omega) (by omega) k (by omega), e2, wid (48 + ((u % 10 : Nat) : Int)) (by omega) (by omega)]
      simp only [Option.bind_some]
      rw [nums1, show ((48 + ((u % 10 : Nat) : Int)) % 256).toNat = 48 + u % 10 by omega, if_pos (by rw [ba_size]; show _ + 1 ≤ _; omega), dig2 u (by omega)]
      exact congrArg some (ba_append _ [_])

theorem itoa_nat (u : Nat) : Lib.itoa (u : Int) = Lib.decDigits u := by unfold Lib.itoa; rw [if_neg (by omega)]; simp

theorem decimal_eq (k u : Nat) (h : u < 10 ^ 18) : impl_decimal.f k (u : Int) = some ⟨(Lib.decDigits u).toArray⟩ := by
  unfold impl_decimal.f; rw [if_pos (by omega), if_pos (by omega), itoa_nat]

def twoT (u : Nat) : ByteArray := ⟨#[UInt8.ofNat (48 + u / 10), UInt8.ofNat (48 + u % 10)]⟩

theorem spec_two_text (u : Nat) (h : u < 100) : spec_l03Two.f (u : Int) = some (twoT u) := by
  unfold spec_l03Two.f twoT
  rw [tdivP _ _ (by omega), tmodP _ _ (by omega), wid ((u : Int) / 10) (by omega) (by omega), wid (48 + (u : Int) / 10) (by omega) (by omega), wid (48 + (u : Int) % 10) (by omega) (by omega), nums2,
    show ((48 + (u : Int) / 10) % 256).toNat = 48 + u / 10 by omega, show ((48 + (u : Int) % 10) % 256).toNat = 48 + u % 10 by omega]

theorem padded_eq (k u : Nat) (h : u < 100) : impl_padded.f (k + 2) (u : Int) 2 = some (twoT u) := by
  unfold impl_padded.f twoT
  rw [decimal_eq _ u (by omega)]
  simp only [Option.bind_some]
  by_cases c : u < 10
  · rw [dig1 u c, impl_padded.l0, if_pos (by rw [ba_size]; simp), if_pos (by rw [ba_size]; simp), show (⟨#[48]⟩ : ByteArray) ++ ⟨[UInt8.ofNat (48 + u)].toArray⟩ = ⟨[48, UInt8.ofNat (48 + u)].toArray⟩ from ba_append [48] _, impl_padded.l0, if_neg (by rw [ba_size]; simp), show u / 10 = 0 by omega, show u % 10 = u by omega]
    rfl
  · rw [dig2 u (by omega), dig1 (u / 10) (by omega), impl_padded.l0, if_neg (by rw [ba_size]; simp)]
    rfl

def angT (a : Int) : ByteArray := ((((((if a < 0 then (⟨#[45]⟩ : ByteArray) else (⟨#[]⟩ : ByteArray)) ++ (⟨(Lib.decDigits (a.natAbs / 3600)).toArray⟩ : ByteArray)) ++ (⟨#[100]⟩ : ByteArray)) ++ twoT (a.natAbs / 60 % 60)) ++ (⟨#[109]⟩ : ByteArray)) ++ twoT (a.natAbs % 60)) ++ (⟨#[115]⟩ : ByteArray)

theorem ba_one (x : UInt8) : (⟨#[x]⟩ : ByteArray).size = 1 := rfl

theorem ba_none : (⟨#[]⟩ : ByteArray).size = 0 := rfl

theorem digs_arr (u : Nat) (h : u < 1000) : ∃ D : ByteArray, (⟨(Lib.decDigits u).toArray⟩ : ByteArray) = D ∧ D.size ≤ 3 := ⟨_, rfl, by rw [ba_size]; exact digs_len 2 u (by omega)⟩

theorem two_arr (u : Nat) : ∃ D : ByteArray, twoT u = D ∧ D.size = 2 := ⟨_, rfl, rfl⟩

theorem l03Text_eq (k : Nat) (a : Int) (h0 : -648000 ≤ a) (h1 : a ≤ 1296000) : spec_l03Text.f (k + 10) a = some (angT a) := by
  have hD : ∀ x : Int, x = ((a.natAbs / 3600 : Nat) : Int) → spec_l01Dec.f (k + 10) x = some ⟨(Lib.decDigits (a.natAbs / 3600)).toArray⟩ := fun x hx => by rw [hx]; exact dec_eq 2 _ (by omega) (by omega) _ (by omega)
  have hM : ∀ x : Int, x = ((a.natAbs / 60 % 60 : Nat) : Int) → spec_l03Two.f x = some (twoT (a.natAbs / 60 % 60)) := fun x hx => by rw [hx]; exact spec_two_text _ (by omega)
  have hS : ∀ x : Int, x = ((a.natAbs % 60 : Nat) : Int) → spec_l03Two.f x = some (twoT (a.natAbs % 60)) := fun x hx => by rw [hx]; exact spec_two_text _ (by omega)
  unfold spec_l03Text.f angT
  obtain ⟨D, eD, zD⟩ := digs_arr (a.natAbs / 3600) (by omega)
  obtain ⟨M, eM, zM⟩ := two_arr (a.natAbs / 60 % 60)
  obtain ⟨S, eS, zS⟩ := two_arr (a.natAbs % 60)
  rw [eD] at hD ⊢; rw [eM] at hM ⊢; rw [eS] at hS ⊢
  by_cases c : a < 0
  · rw [if_pos c, wid (-a) (by omega) (by omega), tdivP _ _ (by omega), tdivP _ _ (by omega), wid (-a / 3600) (by omega) (by omega), wid (-a / 60) (by omega) (by omega), tmodP _ _ (by omega), tmodP _ _ (by omega), hD _ (by omega), hM _ (by omega), hS _ (by omega)]
    simp only [Option.bind_some, ByteArray.size_append, ba_one, if_pos c, zM, zS]
    rw [if_pos (show 1 + D.size ≤ 9223372036854775807 by omega), if_pos (show 1 + D.size + 1 ≤ 9223372036854775807 by omega), if_pos (show 1 + D.size + 1 + 2 ≤ 9223372036854775807 by omega), if_pos (show 1 + D.size + 1 + 2 + 1 ≤ 9223372036854775807 by omega), if_pos (show 1 + D.size + 1 + 2 + 1 + 2 ≤ 9223372036854775807 by omega), if_pos (show 1 + D.size + 1 + 2 + 1 + 2 + 1 ≤ 9223372036854775807 by omega)]
  · rw [if_neg c, tdivP _ _ (by omega), tdivP _ _ (by omega), wid (a / 3600) (by omega) (by omega), wid (a / 60) (by omega) (by omega), tmodP _ _ (by omega), tmodP _ _ (by omega), hD _ (by omega), hM _ (by omega), hS _ (by omega)]
    simp only [Option.bind_some, ByteArray.size_append, ba_one, ba_none, if_neg c, zM, zS]
    rw [if_pos (show 0 + D.size ≤ 9223372036854775807 by omega), if_pos (show 0 + D.size + 1 ≤ 9223372036854775807 by omega), if_pos (show 0 + D.size + 1 + 2 ≤ 9223372036854775807 by omega), if_pos (show 0 + D.size + 1 + 2 + 1 ≤ 9223372036854775807 by omega), if_pos (show 0 + D.size + 1 + 2 + 1 + 2 ≤ 9223372036854775807 by omega), if_pos (show 0 + D.size + 1 + 2 + 1 + 2 + 1 ≤ 9223372036854775807 by omega)]

theorem padded_eq9 (k u : Nat) (h : u < 100) : ∀ x : Int, x = (u : Int) → impl_padded.f (k + 9) x 2 = some (twoT u) := fun x hx => by
  have := padded_eq (k + 7) u h
  rw [hx]; simpa using this

theorem decimal_eq9 (k u : Nat) (h : u < 1000) : ∀ x : Int, x = (u : Int) → impl_decimal.f k x = some ⟨(Lib.decDigits u).toArray⟩ := fun x hx => by rw [hx]; exact decimal_eq k u (by omega)

theorem abs_eq (a : Int) (h0 : -648000 ≤ a) (h1 : a ≤ 1296000) : impl_abs.f a = some (a.natAbs : Int) := by
  unfold impl_abs.f mx; rw [wid (-a) (by omega) (by omega)]; congr 1; split <;> omega

theorem sign_size (a : Int) : (if a < 0 then (⟨#[45]⟩ : ByteArray) else (⟨#[]⟩ : ByteArray)).size ≤ 1 := by
  by_cases c : a < 0
  · rw [if_pos c, ba_one]; omega
  · rw [if_neg c, ba_none]; omega

theorem impl_AngleText_j (k : Nat) (a : Int) (h0 : -648000 ≤ a) (h1 : a ≤ 1296000) : impl_AngleText.j0 (k + 10) a (if a < 0 then (⟨#[45]⟩ : ByteArray) else (⟨#[]⟩ : ByteArray)) = some (angT a, 0) := by
  have hD := decimal_eq9 (k + 9) (a.natAbs / 3600) (by omega)
  have hM := padded_eq9 k (a.natAbs / 60 % 60) (by omega)
  have hS := padded_eq9 k (a.natAbs % 60) (by omega)
  have hA := abs_eq a h0 h1
  have hx := sign_size a
  unfold angT
  obtain ⟨D, eD, zD⟩ := digs_arr (a.natAbs / 3600) (by omega)
  obtain ⟨M, eM, zM⟩ := two_arr (a.natAbs / 60 % 60)
  obtain ⟨S, eS, zS⟩ := two_arr (a.natAbs % 60)
  rw [eD] at hD ⊢; rw [eM] at hM ⊢; rw [eS] at hS ⊢
  generalize (if a < 0 then (⟨#[45]⟩ : ByteArray) else (⟨#[]⟩ : ByteArray)) = X at hx ⊢
  have hb : ∃ b : Int, b = (a.natAbs : Int) := ⟨_, rfl⟩
  obtain ⟨b, hb⟩ := hb
  rw [← hb] at hA
  unfold impl_AngleText.j0
  simp only [hA, Option.bind_some]
  rw [tdivP _ _ (by omega), tdivP _ _ (by omega), wid (b / 3600) (by omega) (by omega), wid (b / 60) (by omega) (by omega), tmodP _ _ (by omega), tmodP _ _ (by omega), hD _ (by omega), hM _ (by omega), hS _ (by omega)]
  simp only [Option.bind_some, ByteArray.size_append, ba_one, zM, zS]
  rw [if_pos (show X.size + D.size ≤ 9223372036854775807 by omega), if_pos (show X.size + D.size + 1 ≤ 9223372036854775807 by omega), if_pos (show X.size + D.size + 1 + 2 ≤ 9223372036854775807 by omega), if_pos (show X.size + D.size + 1 + 2 + 1 ≤ 9223372036854775807 by omega), if_pos (show X.size + D.size + 1 + 2 + 1 + 2 ≤ 9223372036854775807 by omega), if_pos (show X.size + D.size + 1 + 2 + 1 + 2 + 1 ≤ 9223372036854775807 by omega)]

theorem impl_AngleText_eq (k : Nat) (a : Int) : impl_AngleText.f (k + 30) a = some (if -648000 ≤ a ∧ a ≤ 1296000 then (angT a, 0) else ((⟨#[]⟩ : ByteArray), 2)) := by
  unfold impl_AngleText.f
  rw [impl_in_eq]
  by_cases c : -648000 ≤ a ∧ a ≤ 1296000
  · simp only [Option.bind_some, if_pos (decide_eq_true c), if_pos c]
    rw [← impl_AngleText_j (k + 20) a c.1 c.2]
    split <;> rfl
  · simp [c]

def valD (a : Nat) (l : List UInt8) : Nat := l.foldl (fun x c => x * 10 + (c.toNat - 48)) a

theorem valD_nil (a : Nat) : valD a [] = a := rfl

theorem valD_cons (a : Nat) (c : UInt8) (r : List UInt8) : valD a (c :: r) = valD (a * 10 + (c.toNat - 48)) r := by unfold valD; rw [List.foldl_cons]

def isD (c : UInt8) : Prop := 48 ≤ c.toNat ∧ c.toNat ≤ 57

theorem valD_append (l m : List UInt8) (a : Nat) : valD a (l ++ m) = valD (valD a l) m := List.foldl_append

theorem valD_ge (l : List UInt8) : ∀ a : Nat, a ≤ valD a l := by
  induction l with
  | nil => intro a; exact Nat.le_refl _
  | cons c r ih =>
    intro a
    rw [valD_cons]
    have := ih (a * 10 + (c.toNat - 48))
    omega

theorem u8_dig (u : Nat) (h : u < 10) : (UInt8.ofNat (48 + u)).toNat = 48 + u := by
  rw [UInt8.toNat_ofNat']; omega

theorem digs_isD : ∀ (d u : Nat), u < 10 ^ (d + 1) → (∀ c ∈ Lib.decDigits u, isD c) ∧ valD 0 (Lib.decDigits u) = u ∧ 0 < (Lib.decDigits u).length := by
  intro d
  induction d with
  | zero =>
    intro u h
    rw [dig1 u (by omega)]
    have := u8_dig u (by omega)
    refine ⟨?_, ?_, by simp⟩
    · intro c hc
      rw [List.mem_singleton] at hc
      subst hc
      unfold isD; omega
    · rw [valD_cons, valD_nil]; omega
  | succ d ih =>
    intro u h
    by_cases c : u < 10
    · rw [dig1 u c]
      have := u8_dig u c
      refine ⟨?_, ?_, by simp⟩
      · intro c hc
        rw [List.mem_singleton] at hc
        subst hc
        unfold isD; omega
      · rw [valD_cons, valD_nil]; omega
    · rw [dig2 u (by omega)]
      obtain ⟨h1, h2, h3⟩ := ih (u / 10) (by rw [Nat.pow_succ] at h; omega)
      have := u8_dig (u % 10) (by omega)
      refine ⟨?_, ?_, by simp⟩
      · intro c hc
        rw [List.mem_append, List.mem_singleton] at hc
        rcases hc with hc | hc
        · exact h1 c hc
        · subst hc; unfold isD; omega
      · rw [valD_append, h2, valD_cons, valD_nil]; omega

theorem parse_digs (M : Nat) (l : List UInt8) : ∀ (a : Nat), (∀ c ∈ l, isD c) → valD a l ≤ M → valD a l < 10000000000000000000 → Lib.parseUintM M a l = .ok (valD a l) := by
  induction l with
  | nil => intro a _ _ _; rfl
  | cons c r ih =>
    intro a hd hM hT
    have hc := hd c (by simp)
    unfold isD at hc
    rw [valD_cons] at hM hT ⊢
    have hg := valD_ge r (a * 10 + (c.toNat - 48))
    rw [Lib.parseUintM, if_pos hc, if_neg (by omega), if_neg (by omega)]
    exact ih _ (fun x hx => hd x (by simp [hx])) hM hT

theorem parse_dec (u : Nat) (h : u < 1000000000000000000) : Lib.parseUintB 64 (Lib.decDigits u) = .ok u := by
  obtain ⟨h1, h2, h3⟩ := digs_isD 17 u (by omega)
  unfold Lib.parseUintB
  rw [if_neg (by intro e; rw [e] at h3; simp at h3), parse_digs _ _ 0 h1 (by rw [h2]; omega) (by rw [h2]; omega), h2]

theorem parse_itoa (v : Int) (h0 : -1000000000000000000 < v) (h1 : v < 1000000000000000000) : Lib.parseIntB 64 (Lib.itoa v) = .ok v := by
  have hp := parse_dec v.natAbs (by omega)
  unfold Lib.itoa
  by_cases c : v < 0
  · rw [if_pos c, Lib.parseIntB_minus, hp, Lib.signedC, if_neg (by omega)]
    congr 1; omega
  · rw [if_neg c, show v.toNat = v.natAbs by omega]
    obtain ⟨d1, d2, d3⟩ := digs_isD 17 v.natAbs (by omega)
    cases e : Lib.decDigits v.natAbs with
    | nil => rw [e] at d3; simp at d3
    | cons b r =>
      rw [e] at d1 hp
      have hb := d1 b (by simp)
      unfold isD at hb
      rw [Lib.parseIntB_plain 64 b r (by omega) (by omega), hp, Lib.signlessC, if_neg (by omega)]
      congr 1; omega

def encI (x : Int) : ByteArray := ⟨(Lib.itoa x).toArray⟩

theorem ba_eq {s t : ByteArray} (h : (s.toList == t.toList) = true) : s = t := by
  have h := beq_iff_eq.1 h
  rw [ByteArray.toList_eq, ByteArray.toList_eq] at h
  obtain ⟨⟨a⟩⟩ := s
  obtain ⟨⟨b⟩⟩ := t
  simp at h
  rw [h]

theorem ba_beq (s : ByteArray) : (s.toList == s.toList) = true := beq_self_eq_true _

theorem itoa_len19 (v : Int) (h0 : -1000000000000000000 < v) (h1 : v < 1000000000000000000) : (Lib.itoa v).length ≤ 19 := by
  have := digs_len 17 v.natAbs (by omega)
  unfold Lib.itoa
  split
  · simp only [List.length_cons]; omega
  · rw [show v.toNat = v.natAbs by omega]; omega

/-- impl: total, and what it accepts is canonical. -/
theorem readDec_total (k : Nat) (w : ByteArray) : ∃ r, impl_readDecimal.f k w = some r ∧ (r.2 = true → w = encI r.1) := by
  unfold impl_readDecimal.f
  by_cases c : w.size > 19
  · exact ⟨_, by rw [if_pos c], fun h => absurd h (by simp)⟩
  · rw [if_neg c]
    cases hp : Lib.parseIntB 64 w.data.toList
    · rename_i v
      have hb := Lib.parseIntB_bounds hp
      have e : (2 : Nat) ^ (64 - 1) = 9223372036854775808 := by decide
      rw [e] at hb
      have hd : impl_decimal.f k v = some (encI v) := by unfold impl_decimal.f encI; rw [if_pos (by omega), if_pos (by omega)]
      refine ⟨(v, (encI v).toList == w.toList), ?_, fun h => (ba_eq h).symm⟩
      simp only [hd, Option.bind_some]
    · exact ⟨_, rfl, fun h => absurd h (by simp)⟩
    · exact ⟨_, rfl, fun h => absurd h (by simp)⟩

theorem readDec_of (k : Nat) (v : Int) (h0 : -1000000000000000000 < v) (h1 : v < 1000000000000000000) : impl_readDecimal.f k (encI v) = some (v, true) := by
  have hl := itoa_len19 v h0 h1
  have hp := parse_itoa v h0 h1
  have hd : impl_decimal.f k v = some (encI v) := by unfold impl_decimal.f encI; rw [if_pos (by omega), if_pos (by omega)]
  unfold impl_readDecimal.f
  rw [if_neg (by unfold encI; rw [ba_size]; omega)]
  have e : (encI v).data.toList = Lib.itoa v := by unfold encI; simp
  rw [e, hp]
  simp only [hd, Option.bind_some, ba_beq]
/-! spec -/

theorem bt_nat (w : ByteArray) (i : Nat) (h : i < w.size) : bt w (i : Int) = (w.data.toList[i]'(by rw [data_length]; exact h)).toNat := by
  unfold bt
  rw [dif_pos (by simpa using h)]
  rfl

theorem spec_value_loop (w : ByteArray) (hs : w.size ≤ 13) : ∀ (d i : Nat) (x : Nat), i + d = w.size → x < 10 ^ i → ∀ k, d + 30 < k →
    ∃ r, spec_l01Value.l0 k w (x : Int) (i : Int) = some r ∧ (r.2 = true → ∃ u : Nat, u < 10 ^ 13 ∧ r.1 = (u : Int) ∧ w = ⟨(Lib.decDigits u).toArray⟩) := by
  intro d
  induction d with
  | zero =>
    intro i x hi hx k hk
    obtain ⟨k, rfl⟩ : ∃ m, k = m + 1 := ⟨k - 1, by omega⟩
    have hx13 : x < 10 ^ 13 := Nat.lt_of_lt_of_le hx (Nat.pow_le_pow_right (by omega) (by omega))
    refine ⟨((x : Int), (⟨(Lib.decDigits x).toArray⟩ : ByteArray).toList == w.toList), ?_, fun h => ⟨x, hx13, rfl, (ba_eq h).symm⟩⟩
    rw [spec_l01Value.l0, if_neg (by omega), dec_eq 12 x (by omega) (by omega) k (by omega)]
    rfl
  | succ d ih =>
    intro i x hi hx k hk
    obtain ⟨k, rfl⟩ : ∃ m, k = m + 1 := ⟨k - 1, by omega⟩
    have hr := bt_range w (i : Int)
    have hx12 : x < 10 ^ 12 := Nat.lt_of_lt_of_le hx (Nat.pow_le_pow_right (by omega) (by omega))
    rw [spec_l01Value.l0, if_pos (by omega), if_pos (by omega)]
    by_cases c1 : bt w (i : Int) < 48
    · exact ⟨_, by rw [if_pos c1], fun h => absurd h (by simp)⟩
    · rw [if_neg c1]
      by_cases c2 : bt w (i : Int) > 57
      · exact ⟨_, by rw [if_pos c2], fun h => absurd h (by simp)⟩
      · rw [if_neg c2, wid (10 * (x : Int)) (by omega) (by omega), wid (10 * (x : Int) + (bt w (i : Int) - 48) % 256) (by omega) (by omega), wid ((i : Int) + 1) (by omega) (by omega)]
        have := ih (i + 1) (10 * x + ((bt w (i : Int) - 48) % 256).toNat) (by omega) (by rw [Nat.pow_succ]; omega) k (by omega)
        rw [show ((10 * x + ((bt w (i : Int) - 48) % 256).toNat : Nat) : Int) = 10 * (x : Int) + (bt w (i : Int) - 48) % 256 by omega, show ((i + 1 : Nat) : Int) = (i : Int) + 1 by omega] at this
        exact this

theorem spec_value_total (w : ByteArray) (k : Nat) : ∃ r, spec_l01Value.f (k + 100) w = some r ∧ (r.2 = true → ∃ u : Nat, u < 10 ^ 13 ∧ r.1 = (u : Int) ∧ w = ⟨(Lib.decDigits u).toArray⟩) := by
  unfold spec_l01Value.f
  by_cases c : (w.size : Int) < 1
  · rw [if_pos c, spec_l01Value.j0, if_pos rfl]
    exact ⟨_, rfl, fun h => absurd h (by simp)⟩
  · rw [if_neg c, spec_l01Value.j0]
    by_cases c1 : (w.size : Int) > 13
    · rw [if_pos (by simpa using c1)]
      exact ⟨_, rfl, fun h => absurd h (by simp)⟩
    · rw [if_neg (by simpa using c1)]
      exact spec_value_loop w (by omega) w.size 0 0 (by omega) (by decide) (k + 99) (by omega)

theorem spec_value_dig (l : List UInt8) (hl : l.length ≤ 13) (hd : ∀ c ∈ l, isD c) (hv : (⟨(Lib.decDigits (valD 0 l)).toArray⟩ : ByteArray) = ⟨l.toArray⟩) (hb : valD 0 l < 10 ^ 13) : ∀ (d i : Nat), i + d = l.length → ∀ k, d + 30 < k →
    spec_l01Value.l0 k (⟨l.toArray⟩ : ByteArray) ((valD 0 (l.take i) : Nat) : Int) (i : Int) = some (((valD 0 l : Nat) : Int), true) := by
  intro d
  induction d with
  | zero =>
    intro i hi k hk
    obtain ⟨k, rfl⟩ : ∃ m, k = m + 1 := ⟨k - 1, by omega⟩
    rw [spec_l01Value.l0, if_neg (by rw [ba_size]; omega), List.take_of_length_le (by omega), dec_eq 12 _ (by omega) (by omega) k (by omega)]
    simp only [Option.bind_some]
    rw [hv, ba_beq]
  | succ d ih =>
    intro i hi k hk
    obtain ⟨k, rfl⟩ : ∃ m, k = m + 1 := ⟨k - 1, by omega⟩
    have hlt : i < l.length := by omega
    have hc := hd l[i] (List.getElem_mem hlt)
    unfold isD at hc
    have hbt : bt (⟨l.toArray⟩ : ByteArray) (i : Int) = (l[i].toNat : Int) := by rw [bt_nat _ i (by rw [ba_size]; exact hlt)]
    have hn : valD 0 (l.take (i + 1)) = valD 0 (l.take i) * 10 + (l[i].toNat - 48) := by
      rw [List.take_add_one, List.getElem?_eq_getElem hlt, valD_append]; rfl
    have hle : valD 0 (l.take (i + 1)) ≤ valD 0 l := by
      conv => rhs; rw [← List.take_append_drop (i + 1) l]
      rw [valD_append]; exact valD_ge _ _
    rw [spec_l01Value.l0, if_pos (by rw [ba_size]; omega), if_pos (by omega), hbt, if_neg (by omega), if_neg (by omega), wid (10 * _) (by omega) (by omega), wid (10 * _ + _) (by omega) (by omega), wid ((i : Int) + 1) (by omega) (by omega)]
    have := ih (i + 1) (by omega) k (by omega)
    rw [hn, show ((valD 0 (l.take i) * 10 + (l[i].toNat - 48) : Nat) : Int) = 10 * ((valD 0 (l.take i) : Nat) : Int) + ((l[i].toNat : Int) - 48) % 256 by omega, show ((i + 1 : Nat) : Int) = (i : Int) + 1 by omega] at this
    exact this

theorem spec_value_of (u k : Nat) (h : u < 10 ^ 13) : spec_l01Value.f (k + 100) (⟨(Lib.decDigits u).toArray⟩ : ByteArray) = some ((u : Int), true) := by
  obtain ⟨h1, h2, h3⟩ := digs_isD 17 u (by omega)
  have hl := digs_len 12 u (by omega)
  have := spec_value_dig (Lib.decDigits u) (by omega) h1 (by rw [h2]) (by rw [h2]; exact h) (Lib.decDigits u).length 0 (by omega) (k + 99) (by omega)
  unfold spec_l01Value.f
  rw [ba_size, if_neg (by omega), spec_l01Value.j0, if_neg (by simp; omega)]
  rw [h2] at this
  exact this

theorem ba_extract1 (w : ByteArray) : (w.extract 1 w.size).data.toList = w.data.toList.drop 1 := Lib.extract_to_end w 1

theorem ba_mk {w : ByteArray} {l : List UInt8} (h : w.data.toList = l) : w = ⟨l.toArray⟩ := by subst h; rfl

def mkB (l : List UInt8) : ByteArray := ⟨l.toArray⟩

theorem data_mkB (l : List UInt8) : (mkB l).data.toList = l := by simp [mkB]

/-- A text cut at every occurrence of a byte; cur: the piece that has begun. -/
def cutAt (c : UInt8) : List UInt8 → List UInt8 → List (List UInt8)
  | cur, [] => [cur]
  | cur, b :: r => if b = c then cur :: cutAt c [] r else cutAt c (cur ++ [b]) r

theorem pre_one (b c : UInt8) (l : List UInt8) : List.isPrefixOf [c] (b :: l) = (c == b) := by simp [List.isPrefixOf]

theorem ba_extract (w : ByteArray) (a b : Nat) : w.extract a b = mkB ((w.data.toList.drop a).take (b - a)) := ba_mk (Lib.extract_data w a b)

theorem spec_split_loop (c : UInt8) (s : ByteArray) (hs : s.size ≤ 1048576) : ∀ (d i f : Nat) (out : List ByteArray), i + d = s.size → f ≤ i → out.length ≤ i → ∀ k, d + 1 < k →
    spec_l01Split.l0 k s (c.toNat : Int) out (f : Int) (i : Int) = some (out ++ (cutAt c ((s.data.toList.drop f).take (i - f)) (s.data.toList.drop i)).map mkB) := by
  intro d
  induction d with
  | zero =>
    intro i f out hi hf ho k hk
    obtain ⟨k, rfl⟩ : ∃ m, k = m + 2 := ⟨k - 2, by omega⟩
    have hl := data_length s
    rw [spec_l01Split.l0, if_pos (by omega), if_pos (by omega), if_pos (by omega), if_pos (by omega), if_pos (by omega), wid ((i : Int) + 1) (by omega) (by omega), spec_l01Split.l0, if_neg (by omega), ba_extract]
    rw [show ((i : Int)).toNat = i by omega, show ((f : Int)).toNat = f by omega, List.drop_eq_nil_of_le (show s.data.toList.length ≤ i by omega)]
    simp [cutAt]
  | succ d ih =>
    intro i f out hi hf ho k hk
    obtain ⟨k, rfl⟩ : ∃ m, k = m + 1 := ⟨k - 1, by omega⟩
    have hl := data_length s
    have hlt : i < s.data.toList.length := by omega
    have hb := bt_nat s i (by omega)
    rw [spec_l01Split.l0, if_pos (by omega), if_neg (by omega), if_pos (by omega), if_pos (by omega), hb]
    rw [List.drop_eq_getElem_cons hlt]
    by_cases h : s.data.toList[i] = c
    · rw [if_pos (by rw [h]), if_pos (by omega), if_pos (by omega), if_pos (by omega), wid ((i : Int) + 1) (by omega) (by omega), ba_extract, show ((i : Int)).toNat = i by omega, show ((f : Int)).toNat = f by omega]
      have := ih (i + 1) (i + 1) (out ++ [mkB ((s.data.toList.drop f).take (i - f))]) (by omega) (by omega) (by simp; omega) k (by omega)
      rw [show ((i + 1 : Nat) : Int) = (i : Int) + 1 by omega] at this
      rw [this, cutAt, if_pos h]
      simp
    · rw [if_neg (by intro e; exact h (UInt8.toNat_inj.1 (by omega))), wid ((i : Int) + 1) (by omega) (by omega)]
      have := ih (i + 1) f out (by omega) (by omega) (by omega) k (by omega)
      rw [show ((i + 1 : Nat) : Int) = (i : Int) + 1 by omega] at this
      rw [this, cutAt, if_neg h]
      have e : (s.data.toList.drop f).take (i + 1 - f) = (s.data.toList.drop f).take (i - f) ++ [s.data.toList[i]] := by
        rw [show i + 1 - f = (i - f) + 1 by omega, List.take_add_one, List.getElem?_drop, show f + (i - f) = i by omega, List.getElem?_eq_getElem hlt]; rfl
      rw [e]

theorem spec_split (c : UInt8) (s : ByteArray) (hs : s.size ≤ 1048576) (k : Nat) (hk : 1048600 < k) : spec_l01Split.f k s (c.toNat : Int) = some ((cutAt c [] s.data.toList).map mkB) := by
  have := spec_split_loop c s hs s.size 0 0 [] (by omega) (by omega) (by simp) k (by omega)
  unfold spec_l01Split.f
  simpa using this
/-! numbers -/

def o8 (n : Nat) : UInt8 := UInt8.ofNat (48 + n)

theorem o8_nat (n : Nat) (h : n < 10) : (o8 n).toNat = 48 + n := u8_dig n h

theorem o8_ne (n : Nat) (c : UInt8) (h : n < 10) (hc : c.toNat < 48 ∨ 57 < c.toNat) : o8 n ≠ c := fun e => by
  have := o8_nat n h
  rw [e] at this; omega

theorem bt_mk (l : List UInt8) (i : Nat) (x : UInt8) (h : l[i]? = some x) : bt (mkB l) (i : Int) = (x.toNat : Int) := by
  obtain ⟨hi, e⟩ := List.getElem?_eq_some_iff.1 h
  have hz : (mkB l).size = l.length := ba_size l
  rw [bt_nat (mkB l) i (by rw [hz]; exact hi)]
  have : (mkB l).data.toList[i]'(by rw [data_mkB]; exact hi) = x := by
    rw [← e]; congr 1
  rw [this]

theorem size_mk (l : List UInt8) : (mkB l).size = l.length := ba_size l

def tail6 (m s : Nat) : List UInt8 := [o8 (m / 10), o8 (m % 10), 109, o8 (s / 10), o8 (s % 10), 115]

def angB (n : Nat) : List UInt8 := Lib.decDigits (n / 3600) ++ 100 :: tail6 (n / 60 % 60) (n % 60)

theorem angT_list (a : Int) : angT a = mkB (if a < 0 then 45 :: angB a.natAbs else angB a.natAbs) := by
  unfold angT
  have e1 : twoT (a.natAbs / 60 % 60) = ⟨([o8 (a.natAbs / 60 % 60 / 10), o8 (a.natAbs / 60 % 60 % 10)] : List UInt8).toArray⟩ := rfl
  have e2 : twoT (a.natAbs % 60) = ⟨([o8 (a.natAbs % 60 / 10), o8 (a.natAbs % 60 % 10)] : List UInt8).toArray⟩ := rfl
  rw [e1, e2, show (⟨#[100]⟩ : ByteArray) = ⟨([100] : List UInt8).toArray⟩ from rfl, show (⟨#[109]⟩ : ByteArray) = ⟨([109] : List UInt8).toArray⟩ from rfl, show (⟨#[115]⟩ : ByteArray) = ⟨([115] : List UInt8).toArray⟩ from rfl]
  by_cases c : a < 0
  · rw [if_pos c, if_pos c, show (⟨#[45]⟩ : ByteArray) = ⟨([45] : List UInt8).toArray⟩ from rfl]
    simp only [ba_append]
    unfold mkB angB tail6
    simp
  · rw [if_neg c, if_neg c, show (⟨#[]⟩ : ByteArray) = ⟨([] : List UInt8).toArray⟩ from rfl]
    simp only [ba_append]
    unfold mkB angB tail6
    simp

theorem angB_head (n : Nat) (h : n < 3600 * 1000) : ∃ c r, angB n = c :: r ∧ c ≠ 45 := by
  obtain ⟨d1, d2, d3⟩ := digs_isD 2 (n / 3600) (by omega)
  unfold angB
  cases e : Lib.decDigits (n / 3600) with
  | nil => rw [e] at d3; simp at d3
  | cons c r =>
    refine ⟨c, _, rfl, ?_⟩
    have := d1 c (by rw [e]; simp)
    unfold isD at this
    intro e2
    rw [e2] at this
    have : (45 : UInt8).toNat = 45 := rfl
    omega

theorem cutAt_pre (c : UInt8) : ∀ (l cur r : List UInt8), (∀ x ∈ l, x ≠ c) → cutAt c cur (l ++ r) = cutAt c (cur ++ l) r
  | [], cur, r, _ => by simp
  | b :: l, cur, r, h => by
    rw [List.cons_append, cutAt, if_neg (h b (by simp)), cutAt_pre c l (cur ++ [b]) r (fun x hx => h x (by simp [hx]))]
    simp

theorem index_pre (c : UInt8) : ∀ (l r : List UInt8), (∀ x ∈ l, x ≠ c) → Lib.index (l ++ c :: r) [c] = (l.length : Int)
  | [], r, _ => by rw [List.nil_append, Lib.index, pre_one, if_pos (beq_self_eq_true c)]; rfl
  | b :: l, r, h => by
    have hb : (c == b) = false := beq_eq_false_iff_ne.2 (fun e => h b (by simp) e.symm)
    have ih := index_pre c l r (fun x hx => h x (by simp [hx]))
    rw [List.cons_append, Lib.index, pre_one, hb, if_neg (by simp), ih, if_neg (by simp), List.length_cons]
    omega

theorem digs_ne (u : Nat) (h : u < 1000) (c : UInt8) (hc : c.toNat < 48 ∨ 57 < c.toNat) : ∀ x ∈ Lib.decDigits u, x ≠ c := fun x hx e => by
  have := (digs_isD 2 u (by omega)).1 x hx
  unfold isD at this
  rw [e] at this; omega

theorem tail6_ne (m s : Nat) (hm : m < 60) (hs : s < 60) : ∀ x ∈ tail6 m s, x ≠ 100 := by
  intro x hx
  unfold tail6 at hx
  simp only [List.mem_cons, List.not_mem_nil, or_false] at hx
  rcases hx with rfl | rfl | rfl | rfl | rfl | rfl
  · exact o8_ne _ _ (by omega) (.inr (by decide))
  · exact o8_ne _ _ (by omega) (.inr (by decide))
  · decide
  · exact o8_ne _ _ (by omega) (.inr (by decide))
  · exact o8_ne _ _ (by omega) (.inr (by decide))
  · decide

theorem cut_angB (n : Nat) (h : n < 3600 * 1000) : cutAt 100 [] (angB n) = [Lib.decDigits (n / 3600), tail6 (n / 60 % 60) (n % 60)] := by
  unfold angB
  rw [cutAt_pre 100 _ [] _ (digs_ne (n / 3600) (by omega) 100 (.inr (by decide))), cutAt, if_pos rfl, List.nil_append]
  have := cutAt_pre 100 (tail6 (n / 60 % 60) (n % 60)) [] [] (tail6_ne _ _ (by omega) (by omega))
  rw [List.append_nil, List.nil_append] at this
  rw [this]; rfl

def angAns (s : ByteArray) (r : Int × Int) : Prop := r = (0, 6) ∨ ∃ a : Int, (-648000 ≤ a ∧ a ≤ 1296000) ∧ r = (a, 0) ∧ s = angT a

theorem sa_end (s : ByteArray) (W : List ByteArray) (x5 x9 : Int) (h5 : x5 = 1 ∨ x5 = -1) (h0 : 0 ≤ x9) (h1 : x9 ≤ 100000000) (k : Nat) : ∃ r, spec_ReadAngle.l0 (k + 11) s x5 W x9 2 = some r ∧ angAns s r ∧ (-648000 ≤ x5 * x9 → x5 * x9 ≤ 1296000 → s = angT (x5 * x9) → r = (x5 * x9, 0)) := by
  have hx : wrap64 (x5 * x9) = x5 * x9 := by
    rcases h5 with rfl | rfl <;> exact wid _ (by omega) (by omega)
  rw [spec_ReadAngle.l0, if_neg (by omega), hx]
  generalize x5 * x9 = a
  rw [spec_in_eq]
  simp only [Option.bind_some]
  by_cases c : -648000 ≤ a ∧ a ≤ 1296000
  · rw [if_pos (decide_eq_true c), l03Text_eq k a c.1 c.2]
    simp only [Option.bind_some]
    by_cases e : (angT a).toList = s.toList
    · rw [if_pos e]
      exact ⟨_, rfl, .inr ⟨a, c, rfl, (ba_eq (beq_iff_eq.2 e)).symm⟩, fun _ _ _ => rfl⟩
    · rw [if_neg e]
      exact ⟨_, rfl, .inl rfl, fun _ _ h => absurd (by rw [h]) e⟩
  · rw [if_neg (by simpa using c)]
    exact ⟨_, rfl, .inl rfl, fun h1 h2 _ => absurd ⟨h1, h2⟩ c⟩

def dig2at (R : ByteArray) (i : Nat) : Prop := 48 ≤ bt R (3 * (i : Int)) ∧ bt R (3 * (i : Int)) ≤ 57 ∧ 48 ≤ bt R (3 * (i : Int) + 1) ∧ bt R (3 * (i : Int) + 1) ≤ 57

theorem sa_step (s D R : ByteArray) (x5 x9 : Int) (hR : R.size = 6) (h0 : 0 ≤ x9) (h1 : x9 ≤ 10000000) (i : Nat) (hi : i < 2) (k : Nat) :
    (¬ dig2at R i → spec_ReadAngle.l0 (k + 2) s x5 [D, R] x9 (i : Int) = some (0, 6)) ∧
    (dig2at R i → spec_ReadAngle.l0 (k + 2) s x5 [D, R] x9 (i : Int) = spec_ReadAngle.l0 k s x5 [D, R] (x9 + (if i = 0 then 60 else 1) * (10 * (bt R (3 * (i : Int)) - 48) + (bt R (3 * (i : Int) + 1) - 48))) ((i + 1 : Nat) : Int)) := by
  have e1 : rdOf ByteArray.empty [D, R] 1 = R := rfl
  have r0 := bt_range R (3 * (i : Int))
  have r1 := bt_range R (3 * (i : Int) + 1)
  have w3 : wrap64 (3 * (i : Int)) = 3 * (i : Int) := wid _ (by omega) (by omega)
  have w4 : wrap64 (3 * (i : Int) + 1) = 3 * (i : Int) + 1 := wid _ (by omega) (by omega)
  have wi : wrap64 ((i : Int) + 1) = ((i + 1 : Nat) : Int) := wid _ (by omega) (by omega)
  unfold dig2at
  rw [spec_ReadAngle.l0, e1, w3, w4, if_pos (by omega), if_pos (by simp), if_pos (by omega), if_pos (by omega), if_pos (by omega), if_pos (by omega)]
  generalize bt R (3 * (i : Int)) = p at r0 ⊢
  generalize bt R (3 * (i : Int) + 1) = q at r1 ⊢
  by_cases c1 : p < 48
  · rw [if_pos c1, spec_ReadAngle.j5, if_pos rfl]; exact ⟨fun _ => rfl, fun h => by omega⟩
  · rw [if_neg c1]
    by_cases c2 : p > 57
    · rw [if_pos c2, spec_ReadAngle.j5, if_pos rfl]; exact ⟨fun _ => rfl, fun h => by omega⟩
    · rw [if_neg c2]
      by_cases c3 : q < 48
      · rw [if_pos c3, spec_ReadAngle.j5, if_pos rfl]; exact ⟨fun _ => rfl, fun h => by omega⟩
      · rw [if_neg c3, spec_ReadAngle.j5]
        by_cases c4 : q > 57
        · rw [if_pos (by simpa using c4)]; exact ⟨fun _ => rfl, fun h => by omega⟩
        · rw [if_neg (by simpa using c4)]
          refine ⟨fun h => absurd ⟨by omega, by omega, by omega, by omega⟩ h, fun _ => ?_⟩
          by_cases c5 : i = 0
          · subst c5
            rw [if_pos (show ((0 : Nat) : Int) = 0 from rfl), if_pos rfl, wi, wid _ (by omega) (by omega), show x9 + 60 * (10 * ((p - 48) % 256) + (q - 48) % 256) = x9 + 60 * (10 * (p - 48) + (q - 48)) by omega]
          · rw [if_neg (by omega), if_neg c5, wi, wid _ (by omega) (by omega), show x9 + (10 * ((p - 48) % 256) + (q - 48) % 256) = x9 + 1 * (10 * (p - 48) + (q - 48)) by omega]

theorem sa_total (s D R : ByteArray) (x5 x9 : Int) (h5 : x5 = 1 ∨ x5 = -1) (hR : R.size = 6) (h0 : 0 ≤ x9) (h1 : x9 ≤ 2000000) (k : Nat) :
    ∃ r, spec_ReadAngle.l0 (k + 15) s x5 [D, R] x9 0 = some r ∧ angAns s r := by
  obtain ⟨n0, y0⟩ := sa_step s D R x5 x9 hR h0 (by omega) 0 (by omega) (k + 13)
  by_cases c0 : dig2at R 0
  · have e0 := y0 c0
    unfold dig2at at c0
    generalize hX : x9 + (if (0 : Nat) = 0 then (60 : Int) else 1) * (10 * (bt R (3 * ((0 : Nat) : Int)) - 48) + (bt R (3 * ((0 : Nat) : Int) + 1) - 48)) = X at e0
    rw [if_pos rfl] at hX
    obtain ⟨n1, y1⟩ := sa_step s D R x5 X hR (by omega) (by omega) 1 (by omega) (k + 11)
    rw [show ((0 : Nat) : Int) = 0 from rfl] at e0
    rw [e0]
    by_cases c1 : dig2at R 1
    · have e1 := y1 c1
      unfold dig2at at c1
      generalize hY : X + (if (1 : Nat) = 0 then (60 : Int) else 1) * (10 * (bt R (3 * ((1 : Nat) : Int)) - 48) + (bt R (3 * ((1 : Nat) : Int) + 1) - 48)) = Y at e1
      rw [if_neg (by omega)] at hY
      obtain ⟨r, hr, ha, _⟩ := sa_end s [D, R] x5 Y h5 (by omega) (by omega) k
      exact ⟨r, by rw [← hr]; exact e1, ha⟩
    · exact ⟨_, n1 c1, .inl rfl⟩
  · exact ⟨_, n0 c0, .inl rfl⟩

theorem tail_bts (m t : Nat) (hm : m < 60) (ht : t < 60) : bt (mkB (tail6 m t)) 0 = 48 + ((m / 10 : Nat) : Int) ∧ bt (mkB (tail6 m t)) 1 = 48 + ((m % 10 : Nat) : Int) ∧ bt (mkB (tail6 m t)) 3 = 48 + ((t / 10 : Nat) : Int) ∧ bt (mkB (tail6 m t)) 4 = 48 + ((t % 10 : Nat) : Int) := by
  have a0 := bt_mk (tail6 m t) 0 _ rfl
  have a1 := bt_mk (tail6 m t) 1 _ rfl
  have a3 := bt_mk (tail6 m t) 3 _ rfl
  have a4 := bt_mk (tail6 m t) 4 _ rfl
  rw [o8_nat _ (by omega)] at a0 a1 a3 a4
  exact ⟨a0.trans (by omega), a1.trans (by omega), a3.trans (by omega), a4.trans (by omega)⟩

theorem sa_of (D : ByteArray) (a : Int) (x5 x9 : Int) (h5 : x5 = 1 ∨ x5 = -1) (h0 : 0 ≤ x9) (h1 : x9 ≤ 2000000) (m t : Nat) (hm : m < 60) (ht : t < 60) (ha : a = x5 * (x9 + 60 * m + t)) (hb : -648000 ≤ a ∧ a ≤ 1296000) (k : Nat) :
    spec_ReadAngle.l0 (k + 15) (angT a) x5 [D, mkB (tail6 m t)] x9 0 = some (a, 0) := by
  obtain ⟨b0, b1, b3, b4⟩ := tail_bts m t hm ht
  have hR : (mkB (tail6 m t)).size = 6 := size_mk _
  generalize mkB (tail6 m t) = R at b0 b1 b3 b4 hR
  have c0 : dig2at R 0 := by
    unfold dig2at
    rw [show (3 : Int) * ((0 : Nat) : Int) = 0 by omega, show (0 : Int) + 1 = 1 by omega, b0, b1]; omega
  have c1 : dig2at R 1 := by
    unfold dig2at
    rw [show (3 : Int) * ((1 : Nat) : Int) = 3 by omega, show (3 : Int) + 1 = 4 by omega, b3, b4]; omega
  have e0 := (sa_step (angT a) D R x5 x9 hR h0 (by omega) 0 (by omega) (k + 13)).2 c0
  rw [if_pos rfl, show (3 : Int) * ((0 : Nat) : Int) = 0 by omega, show (0 : Int) + 1 = 1 by omega, b0, b1, show x9 + 60 * (10 * (48 + ((m / 10 : Nat) : Int) - 48) + (48 + ((m % 10 : Nat) : Int) - 48)) = x9 + 60 * m by omega, show ((0 : Nat) : Int) = 0 from rfl] at e0
  have e1 := (sa_step (angT a) D R x5 (x9 + 60 * m) hR (by omega) (by omega) 1 (by omega) (k + 11)).2 c1
  rw [if_neg (by omega), show (3 : Int) * ((1 : Nat) : Int) = 3 by omega, show (3 : Int) + 1 = 4 by omega, b3, b4, show x9 + 60 * (m : Int) + 1 * (10 * (48 + ((t / 10 : Nat) : Int) - 48) + (48 + ((t % 10 : Nat) : Int) - 48)) = x9 + 60 * m + t by omega] at e1
  obtain ⟨r, hr, _, hq⟩ := sa_end (angT a) [D, R] x5 (x9 + 60 * m + t) h5 (by omega) (by omega) k
  rw [← ha] at hq
  have hrr := hq hb.1 hb.2 rfl
  rw [e0]
  refine e1.trans ?_
  rw [← hrr]
  exact hr

theorem sj1_total (s x4 : ByteArray) (hx : x4.size ≤ 1048576) (x5 : Int) (h5 : x5 = 1 ∨ x5 = -1) (k : Nat) (hk : 1049000 < k) : ∃ r, spec_ReadAngle.j1 k s x4 x5 = some r ∧ angAns s r := by
  obtain ⟨k, rfl⟩ : ∃ m, k = m + 203 := ⟨k - 203, by omega⟩
  have hsp := spec_split 100 x4 hx (k + 202) (by omega)
  rw [show (((100 : UInt8)).toNat : Int) = 100 from rfl] at hsp
  rw [spec_ReadAngle.j1, hsp]
  simp only [Option.bind_some]
  generalize (cutAt 100 [] x4.data.toList).map mkB = W
  by_cases c : (W.length : Int) = 2
  · rw [if_pos c, if_pos (by omega)]
    obtain ⟨D, R, rfl⟩ : ∃ D R, W = [D, R] := by
      match W, c with
      | [D, R], _ => exact ⟨D, R, rfl⟩
      | [], c => simp at c
      | [_], c => simp at c
      | _ :: _ :: _ :: _, c => simp only [List.length_cons] at c; omega
    rw [show rdOf ByteArray.empty [D, R] 1 = R from rfl, spec_ReadAngle.j2]
    by_cases c6 : (R.size : Int) = 6
    · rw [if_neg (by simpa using c6), if_pos (by simp), show rdOf ByteArray.empty [D, R] 0 = D from rfl]
      obtain ⟨⟨v, ok⟩, hv, hq⟩ := spec_value_total D (k + 101)
      rw [show k + 201 = k + 101 + 100 by omega, hv]
      simp only [Option.bind_some]
      by_cases cok : ok = true
      · obtain ⟨u, hu, e1, _⟩ := hq cok
        simp only at e1
        subst e1
        rw [if_pos cok, show k + 101 + 100 = k + 200 + 1 by omega, spec_ReadAngle.j3]
        by_cases c3 : (u : Int) > 360
        · rw [if_pos (by simpa using c3)]; exact ⟨_, rfl, .inl rfl⟩
        · rw [if_neg (by simpa using c3), wid _ (by omega) (by omega)]
          exact sa_total s D R x5 ((u : Int) * 3600) h5 (by omega) (by omega) (by omega) (k + 185)
      · rw [if_neg cok, show k + 101 + 100 = k + 200 + 1 by omega, spec_ReadAngle.j3, if_pos rfl]; exact ⟨_, rfl, .inl rfl⟩
    · rw [if_pos (by simpa using c6)]; exact ⟨_, rfl, .inl rfl⟩
  · rw [if_neg c, spec_ReadAngle.j2, if_pos rfl]; exact ⟨_, rfl, .inl rfl⟩

theorem sj1_of (a : Int) (hb : -648000 ≤ a ∧ a ≤ 1296000) (x5 : Int) (h5 : x5 = 1 ∨ x5 = -1) (ha : a = x5 * a.natAbs) (k : Nat) (hk : 1049000 < k) : spec_ReadAngle.j1 k (angT a) (mkB (angB a.natAbs)) x5 = some (a, 0) := by
  obtain ⟨k, rfl⟩ : ∃ m, k = m + 203 := ⟨k - 203, by omega⟩
  generalize hn : a.natAbs = n at ha
  have hl : (mkB (angB n)).size ≤ 1048576 := by
    rw [size_mk]; unfold angB tail6
    have := digs_len 2 (n / 3600) (by omega)
    rw [List.length_append]; simp only [List.length_cons, List.length_nil]; omega
  have hsp := spec_split 100 (mkB (angB n)) hl (k + 202) (by omega)
  rw [show (((100 : UInt8)).toNat : Int) = 100 from rfl, data_mkB, cut_angB n (by omega)] at hsp
  rw [spec_ReadAngle.j1, hsp]
  simp only [Option.bind_some, List.map_cons, List.map_nil]
  have h6 : (mkB (tail6 (n / 60 % 60) (n % 60))).size = 6 := size_mk _
  rw [if_pos (by simp), if_pos (by simp), show rdOf ByteArray.empty [mkB (Lib.decDigits (n / 3600)), mkB (tail6 (n / 60 % 60) (n % 60))] 1 = mkB (tail6 (n / 60 % 60) (n % 60)) from rfl, spec_ReadAngle.j2, if_neg (by rw [h6]; simp), if_pos (by simp), show rdOf ByteArray.empty [mkB (Lib.decDigits (n / 3600)), mkB (tail6 (n / 60 % 60) (n % 60))] 0 = mkB (Lib.decDigits (n / 3600)) from rfl]
  have hv := spec_value_of (n / 3600) (k + 101) (by omega)
  rw [show k + 201 = k + 101 + 100 by omega, show mkB (Lib.decDigits (n / 3600)) = ⟨(Lib.decDigits (n / 3600)).toArray⟩ from rfl, hv]
  simp only [Option.bind_some, if_true]
  rw [show k + 101 + 100 = k + 200 + 1 by omega, spec_ReadAngle.j3, if_neg (by simp; omega), wid _ (by omega) (by omega)]
  exact sa_of _ a x5 (((n / 3600 : Nat) : Int) * 3600) h5 (by omega) (by omega) (n / 60 % 60) (n % 60) (by omega) (by omega) (by
    rw [show ((n / 3600 : Nat) : Int) * 3600 + 60 * ((n / 60 % 60 : Nat) : Int) + ((n % 60 : Nat) : Int) = (n : Int) by omega]; exact ha) hb (k + 185)

theorem spec_ReadAngle_total (s : ByteArray) (hs : s.size ≤ 1048576) (k : Nat) (hk : 1049100 < k) : ∃ r, spec_ReadAngle.f k s = some r ∧ angAns s r := by
  obtain ⟨k, rfl⟩ : ∃ m, k = m + 1 := ⟨k - 1, by omega⟩
  unfold spec_ReadAngle.f
  by_cases c : (s.size : Int) > 0
  · rw [if_pos c, if_pos c, spec_ReadAngle.j0]
    by_cases c1 : (bt s 0 == 45) = true
    · rw [if_pos c1, if_pos (by omega)]
      have e : (s.extract 1 s.size).size ≤ 1048576 := by
        rw [← data_length, ba_extract1, List.length_drop, data_length]; omega
      exact sj1_total s _ e (-1) (.inr rfl) k (by omega)
    · rw [if_neg c1]
      exact sj1_total s s hs 1 (.inl rfl) k (by omega)
  · rw [if_neg c, spec_ReadAngle.j0, if_neg (by simp)]
    exact sj1_total s s hs 1 (.inl rfl) k (by omega)

theorem spec_ReadAngle_of (a : Int) (hb : -648000 ≤ a ∧ a ≤ 1296000) (k : Nat) (hk : 1049100 < k) : spec_ReadAngle.f k (angT a) = some (a, 0) := by
  obtain ⟨k, rfl⟩ : ∃ m, k = m + 1 := ⟨k - 1, by omega⟩
  have hl := angT_list a
  obtain ⟨c0, r0, eh, hne⟩ := angB_head a.natAbs (by omega)
  unfold spec_ReadAngle.f
  by_cases c : a < 0
  · have e := sj1_of a hb (-1) (.inr rfl) (by omega) k (by omega)
    rw [if_pos c] at hl
    have hb0 : bt (angT a) 0 = 45 := by rw [hl]; exact bt_mk _ 0 45 rfl
    have hz : (angT a).size = (angB a.natAbs).length + 1 := by rw [hl, size_mk]; rfl
    have hx : (angT a).extract 1 (angT a).size = mkB (angB a.natAbs) := ba_mk (by rw [ba_extract1, hl, data_mkB]; rfl)
    rw [if_pos (by omega), if_pos (by omega), spec_ReadAngle.j0, hb0, if_pos (by decide), if_pos (by omega), hx]
    exact e
  · have e := sj1_of a hb 1 (.inl rfl) (by omega) k (by omega)
    rw [if_neg c] at hl
    have hb0 : bt (angT a) 0 = (c0.toNat : Int) := by rw [hl]; exact bt_mk _ 0 c0 (by rw [eh]; rfl)
    have hz : (angT a).size = (angB a.natAbs).length := by rw [hl, size_mk]
    have hp : 0 < (angB a.natAbs).length := by rw [eh]; simp
    have hn45 : c0.toNat ≠ 45 := fun x => hne (UInt8.toNat_inj.1 x)
    rw [if_pos (by omega), if_pos (by omega), spec_ReadAngle.j0, hb0, if_neg (by simp; omega)]
    rw [← hl] at e
    exact e
/-! impl -/

theorem ia_t (k : Nat) (s : ByteArray) (a : Int) : ∃ r, impl_ReadAngle.t (k + 30) s a = some r ∧ angAns s r ∧ ((-648000 ≤ a ∧ a ≤ 1296000) → s = angT a → r = (a, 0)) := by
  unfold impl_ReadAngle.t
  rw [impl_AngleText_eq k a]
  simp only [Option.bind_some]
  by_cases c : -648000 ≤ a ∧ a ≤ 1296000
  · rw [if_pos c]
    simp only [if_true]
    by_cases e : (angT a).toList = s.toList
    · rw [if_pos e]
      exact ⟨_, rfl, .inr ⟨a, c, rfl, (ba_eq (beq_iff_eq.2 e)).symm⟩, fun _ _ => rfl⟩
    · rw [if_neg e]
      exact ⟨_, rfl, .inl rfl, fun _ h => absurd (by rw [h]) e⟩
  · rw [if_neg c, if_neg (by simp)]
    exact ⟨_, rfl, .inl rfl, fun h => absurd h c⟩

theorem ia_p_total (k : Nat) (s D R : ByteArray) (neg : Bool) : ∃ r, impl_ReadAngle.p (k + 30) s D R neg = some r ∧ angAns s r := by
  unfold impl_ReadAngle.p
  obtain ⟨⟨d, ok⟩, hv, _⟩ := readDec_total (k + 30) D
  rw [hv]
  simp only [Option.bind_some]
  by_cases c : ok = true
  · rw [if_pos c, impl_in_eq]
    simp only [Option.bind_some]
    by_cases c2 : decide (0 ≤ d ∧ d ≤ 360) = true
    · rw [if_pos c2]
      by_cases c3 : (R.size : Int) = 6
      · rw [if_pos c3]
        by_cases c4 : neg = true
        · rw [if_pos c4]
          obtain ⟨r, h1, h2, _⟩ := ia_t k s (wrap64 (-(impl_ReadAngle.v d R)))
          exact ⟨r, h1, h2⟩
        · rw [if_neg c4]
          obtain ⟨r, h1, h2, _⟩ := ia_t k s (impl_ReadAngle.v d R)
          exact ⟨r, h1, h2⟩
      · rw [if_neg c3]; exact ⟨_, rfl, .inl rfl⟩
    · rw [if_neg c2]; exact ⟨_, rfl, .inl rfl⟩
  · rw [if_neg c]; exact ⟨_, rfl, .inl rfl⟩

theorem impl_ReadAngle_total (s : ByteArray) (hs : s.size ≤ 1048576) (k : Nat) : ∃ r, impl_ReadAngle.f (k + 30) s = some r ∧ angAns s r := by
  unfold impl_ReadAngle.f
  rw [if_pos (by omega)]
  exact ia_p_total k s _ _ _

theorem v_of (d m t : Nat) (hd : d ≤ 360) (hm : m < 60) (ht : t < 60) : impl_ReadAngle.v (d : Int) (mkB (tail6 m t)) = (d : Int) * 3600 + 60 * m + t := by
  obtain ⟨b0, b1, b3, b4⟩ := tail_bts m t hm ht
  unfold impl_ReadAngle.v
  rw [b0, b1, b3, b4]
  have w : ∀ (n : Nat), n < 10 → wrap64 (wrap64 (48 + (n : Int)) - 48) = (n : Int) := fun n h => by rw [wid (48 + (n : Int)) (by omega) (by omega), wid _ (by omega) (by omega)]; omega
  rw [w (m / 10) (by omega), w (m % 10) (by omega), w (t / 10) (by omega), w (t % 10) (by omega), wid ((d : Int) * 3600) (by omega) (by omega), wid (10 * ((m / 10 : Nat) : Int)) (by omega) (by omega), wid (10 * ((m / 10 : Nat) : Int) + _) (by omega) (by omega), wid ((10 * ((m / 10 : Nat) : Int) + ((m % 10 : Nat) : Int)) * 60) (by omega) (by omega), wid ((d : Int) * 3600 + _) (by omega) (by omega), wid (10 * ((t / 10 : Nat) : Int)) (by omega) (by omega), wid ((d : Int) * 3600 + _ + _) (by omega) (by omega), wid _ (by omega) (by omega)]
  omega

theorem trim_cut (a : Int) (hb : -648000 ≤ a ∧ a ≤ 1296000) : Lib.hasPrefix (angT a).data.toList [45] = decide (a < 0) ∧ Lib.cut (Lib.trimPrefix (angT a).data.toList [45]) [100] = (Lib.decDigits (a.natAbs / 3600), tail6 (a.natAbs / 60 % 60) (a.natAbs % 60), true) := by
  obtain ⟨c0, r0, eh, hne⟩ := angB_head a.natAbs (by omega)
  have hc : Lib.cut (angB a.natAbs) [100] = (Lib.decDigits (a.natAbs / 3600), tail6 (a.natAbs / 60 % 60) (a.natAbs % 60), true) := by
    have hi := index_pre 100 (Lib.decDigits (a.natAbs / 3600)) (tail6 (a.natAbs / 60 % 60) (a.natAbs % 60)) (digs_ne _ (by omega) 100 (.inr (by decide)))
    unfold Lib.cut angB
    rw [hi, if_pos (by omega), show (((Lib.decDigits (a.natAbs / 3600)).length : Int)).toNat = (Lib.decDigits (a.natAbs / 3600)).length by omega, List.take_left]
    simp only [List.length_cons, List.length_nil, Nat.zero_add]
    rw [show Lib.decDigits (a.natAbs / 3600) ++ 100 :: tail6 (a.natAbs / 60 % 60) (a.natAbs % 60) = (Lib.decDigits (a.natAbs / 3600) ++ [100]) ++ tail6 (a.natAbs / 60 % 60) (a.natAbs % 60) by simp]
    rw [List.drop_left' (by simp)]
  rw [angT_list a, data_mkB]
  by_cases c : a < 0
  · have hp : Lib.hasPrefix (45 :: angB a.natAbs) [45] = true := by unfold Lib.hasPrefix; rw [pre_one]; rfl
    rw [if_pos c, decide_eq_true c]
    unfold Lib.trimPrefix
    rw [hp, if_pos rfl]
    exact ⟨rfl, hc⟩
  · have hp : Lib.hasPrefix (angB a.natAbs) [45] = false := by unfold Lib.hasPrefix; rw [eh, pre_one]; exact beq_eq_false_iff_ne.2 (fun e => hne e.symm)
    rw [if_neg c, decide_eq_false c]
    unfold Lib.trimPrefix
    rw [hp, if_neg (by simp)]
    exact ⟨rfl, hc⟩

theorem ia_p_of (k : Nat) (a : Int) (hb : -648000 ≤ a ∧ a ≤ 1296000) (D R : ByteArray) (d m t : Nat) (hd : d ≤ 360) (hm : m < 60) (ht : t < 60) (hD : D = encI (d : Int)) (hR : R = mkB (tail6 m t)) (neg : Bool) (hn : neg = decide (a < 0)) (ha : (a.natAbs : Int) = (d : Int) * 3600 + 60 * m + t) :
    impl_ReadAngle.p (k + 30) (angT a) D R neg = some (a, 0) := by
  unfold impl_ReadAngle.p
  rw [hD, readDec_of (k + 30) (d : Int) (by omega) (by omega)]
  simp only [Option.bind_some, if_true]
  rw [impl_in_eq, decide_eq_true (by omega)]
  simp only [Option.bind_some, if_true]
  rw [hR, if_pos (by rw [size_mk]; rfl), v_of d m t hd hm ht, hn]
  by_cases c : a < 0
  · rw [if_pos (decide_eq_true c), wid _ (by omega) (by omega)]
    obtain ⟨r, h1, _, h3⟩ := ia_t k (angT a) (-((d : Int) * 3600 + 60 * m + t))
    rw [h1, h3 (by omega) (by congr 1; omega)]
    congr 2; omega
  · rw [if_neg (by simpa using c)]
    obtain ⟨r, h1, _, h3⟩ := ia_t k (angT a) ((d : Int) * 3600 + 60 * m + t)
    rw [h1, h3 (by omega) (by congr 1; omega)]
    congr 2; omega

theorem angT_small (a : Int) (hb : -648000 ≤ a ∧ a ≤ 1296000) : (angT a).size ≤ 20 := by
  have := digs_len 2 (a.natAbs / 3600) (by omega)
  rw [angT_list a, size_mk]
  have h6 : ∀ m t, (tail6 m t).length = 6 := fun _ _ => rfl
  unfold angB
  split
  · rw [List.length_cons, List.length_append, List.length_cons, h6]; omega
  · rw [List.length_append, List.length_cons, h6]; omega

theorem impl_ReadAngle_of (a : Int) (hb : -648000 ≤ a ∧ a ≤ 1296000) (k : Nat) : impl_ReadAngle.f (k + 30) (angT a) = some (a, 0) := by
  have hz := angT_small a hb
  obtain ⟨h1, h2⟩ := trim_cut a hb
  unfold impl_ReadAngle.f
  rw [if_pos (by omega), h1, h2]
  exact ia_p_of k a hb _ _ (a.natAbs / 3600) (a.natAbs / 60 % 60) (a.natAbs % 60) (by omega) (by omega) (by omega) (by unfold encI; rw [itoa_nat]) rfl _ rfl (by omega)

theorem angle_read_same (s : ByteArray) (hs : s.size ≤ 1048576) (k j : Nat) (hk : 1049100 < k) : ∃ r, spec_ReadAngle.f k s = some r ∧ impl_ReadAngle.f (j + 30) s = some r ∧ angAns s r := by
  obtain ⟨r, e1, a1⟩ := spec_ReadAngle_total s hs k hk
  obtain ⟨q, e2, a2⟩ := impl_ReadAngle_total s hs j
  refine ⟨r, e1, ?_, a1⟩
  rcases a1 with rfl | ⟨a, hb, rfl, rfl⟩
  · rcases a2 with rfl | ⟨a, hb, rfl, rfl⟩
    · exact e2
    · rw [spec_ReadAngle_of a hb k hk] at e1
      simp at e1
  · exact impl_ReadAngle_of a hb j

theorem FnExactReadAngle (s : ByteArray) (h8 : s.size ≤ 140737488351232) : ∃ k, laws_FnExactReadAngle.f k s = some true := by
  refine ⟨1049200 + 30, ?_⟩
  generalize hk : 1049200 = k
  unfold laws_FnExactReadAngle.f
  by_cases c : (s.size : Int) > 1048576
  · rw [if_pos c]
  · rw [if_neg c]
    obtain ⟨r, e1, e2, _⟩ := angle_read_same s (by omega) (k + 30) k (by omega)
    rw [e1]
    simp only [Option.bind_some]
    rw [e2]
    simp

end Go.Proofs.YtjheehbejehlaaaDoor.Pure
