/- Proved: for every slice of integers the law FnExactListText returns true. Conditions: none. -/
import Derived.Test.YtjheehbejehlaaaDoorQFnExactListTextx3
namespace Go.Proofs.YtjheehbejehlaaaDoor.Pure
open Go.RowKit Go.Proofs.YtjheehbejehlaaaDoor.PFnExactListText Go.Proofs.YtjheehbejehlaaaDoorW.PrintWords Go.Proofs.YtjheehbejehlaaaDoorW.PrintLast Go.Proofs.YtjheehbejehlaaaDoorW.PrintMore
set_option linter.unusedVariables false
set_option linter.unusedSimpArgs false

theorem wid (n : Int) (h0 : -9223372036854775808 ≤ n) (h1 : n ≤ 9223372036854775807) : wrap64 n = n := by unfold wrap64; omega

theorem tmodP (a b : Int) (h : 0 ≤ a) : a.tmod b = a % b := Int.tmod_eq_emod_of_nonneg h

theorem tdivP (a b : Int) (h : 0 ≤ a) : a.tdiv b = a / b := Int.tdiv_eq_ediv_of_nonneg h

theorem impl_in_eq (n lo hi : Int) : impl_in.f n lo hi = some (decide (lo ≤ n ∧ n ≤ hi)) := by
  unfold impl_in.f; by_cases h : n ≥ lo
  · rw [if_pos h]; simp [show lo ≤ n from h]
  · rw [if_neg h]; simp [show ¬ lo ≤ n from h]

theorem spec_in_eq (n lo hi : Int) : spec_l01In.f n lo hi = some (decide (lo ≤ n ∧ n ≤ hi)) := by
  unfold spec_l01In.f; by_cases h : n ≥ lo
  · rw [if_pos h]; simp [show lo ≤ n from h]
  · rw [if_neg h]; simp [show ¬ lo ≤ n from h]

theorem impl_isValue_eq (n : Int) : impl_isValue.f n = some (decide (-1000000000000 ≤ n ∧ n ≤ 1000000000000)) := by
  unfold impl_isValue.f; rw [impl_in_eq]; rfl

theorem spec_is_eq (n : Int) : spec_l01Is.f n = some (decide (-1000000000000 ≤ n ∧ n ≤ 1000000000000)) := by
  unfold spec_l01Is.f; rw [spec_in_eq]; rfl

theorem dig1 (u : Nat) (h : u < 10) : Lib.decDigits u = [UInt8.ofNat (48 + u)] := by rw [Lib.decDigits, dif_pos h]

theorem dig2 (u : Nat) (h0 : 10 ≤ u) : Lib.decDigits u = Lib.decDigits (u / 10) ++ [UInt8.ofNat (48 + u % 10)] := by rw [Lib.decDigits, dif_neg (by omega)]

theorem digs_len : ∀ (d u : Nat), u < 10 ^ (d + 1) → (Lib.decDigits u).length ≤ d + 1 := by
  intro d
  induction d with
  | zero => intro u h; rw [dig1 u (by omega)]; simp
  | succ d ih =>
    intro u h
    by_cases c : u < 10
    · rw [dig1 u c]; simp
    · rw [dig2 u (by omega)]
      have := ih (u / 10) (by rw [Nat.pow_succ] at h; omega)
      simp only [List.length_append, List.length_cons, List.length_nil]; omega

theorem nums1 (x : Int) : strOfNums [x] = ⟨#[UInt8.ofNat x.toNat]⟩ := by simp [strOfNums]

theorem ba_append (l m : List UInt8) : (⟨l.toArray⟩ : ByteArray) ++ (⟨m.toArray⟩ : ByteArray) = ⟨(l ++ m).toArray⟩ := by
  apply ByteArray.ext
  simp [ByteArray.data_append]

theorem ba_size (l : List UInt8) : (⟨l.toArray⟩ : ByteArray).size = l.length := by simp [ByteArray.size]

/-- The specification's decimal numeral is the library's. -/
theorem dec_eq : ∀ (d : Nat) (u : Nat), u < 10 ^ (d + 1) → d ≤ 17 → ∀ k, d < k → spec_l01Dec.f k (u : Int) = some ⟨(Lib.decDigits u).toArray⟩ := by
  intro d
  induction d with
  | zero =>
    intro u h _ k hk
    obtain ⟨k, rfl⟩ : ∃ m, k = m + 1 := ⟨k - 1, by omega⟩
    rw [spec_l01Dec.f, if_pos (by omega), nums1, wid (48 + (u : Int)) (by omega) (by omega), dig1 u (by omega), show ((48 + (u : Int)) % 256).toNat = 48 + u by omega]
  | succ d ih =>
    intro u h hd k hk
    obtain ⟨k, rfl⟩ : ∃ m, k = m + 1 := ⟨k - 1, by omega⟩
    have hb : u < 10 ^ 18 := Nat.lt_of_lt_of_le h (Nat.pow_le_pow_right (by omega) (by omega))
    by_cases c : u < 10
    · rw [spec_l01Dec.f, if_pos (by omega), nums1, wid (48 + (u : Int)) (by omega) (by omega), dig1 u c, show ((48 + (u : Int)) % 256).toNat = 48 + u by omega]
    · have e1 : wrap64 (Int.tdiv (u : Int) 10) = ((u / 10 : Nat) : Int) := by rw [tdivP _ _ (by omega), wid _ (by omega) (by omega)]; omega
      have e2 : Int.tmod (u : Int) 10 = ((u % 10 : Nat) : Int) := by rw [tmodP _ _ (by omega)]; omega
      have hlen := digs_len d (u / 10) (by rw [Nat.pow_succ] at h; omega)
      rw [spec_l01Dec.f, if_neg (by omega), e1, ih (u / 10) (by rw [Nat.pow_succ] at h; omega) (by omega) k (by omega), e2, wid (48 + ((u % 10 : Nat) : Int)) (by omega) (by omega)]
      simp only [Option.bind_some]
      rw [nums1, show ((48 + ((u % 10 : Nat) : Int)) % 256).toNat = 48 + u % 10 by omega, if_pos (by rw [ba_size]; show _ + 1 ≤ _; omega), dig2 u (by omega)]
      exact congrArg some (ba_append _ [_])

theorem ba_one (x : UInt8) : (⟨#[x]⟩ : ByteArray).size = 1 := rfl

def allV (l : List Int) : Bool := l.all fun x => decide (-1000000000000 ≤ x ∧ x ≤ 1000000000000)

theorem rd_nat (l : List Int) (i : Nat) (h : i < l.length) : rd l (i : Int) = l[i] := by simp [rd, h]

theorem spec_list_loop (l : List Int) (hm : l.length ≤ 35184372088832) : ∀ (d i : Nat), i + d = l.length → ∀ k, d < k → spec_l01List.l0 k l (i : Int) = some (allV (l.drop i) && decide ((l.length : Int) ≤ 100)) := by
  intro d
  induction d with
  | zero =>
    intro i hi k hk
    obtain ⟨k, rfl⟩ : ∃ m, k = m + 1 := ⟨k - 1, by omega⟩
    rw [spec_l01List.l0, if_neg (by omega), List.drop_eq_nil_of_le (by omega)]; simp [allV]
  | succ d ih =>
    intro i hi k hk
    obtain ⟨k, rfl⟩ : ∃ m, k = m + 1 := ⟨k - 1, by omega⟩
    have hlt : i < l.length := by omega
    rw [spec_l01List.l0, if_pos (by omega), if_pos (by omega), rd_nat l i hlt, spec_is_eq, wid ((i : Int) + 1) (by omega) (by omega), show (i : Int) + 1 = ((i + 1 : Nat) : Int) by omega, ih (i + 1) (by omega) k (by omega), List.drop_eq_getElem_cons hlt]
    simp only [Option.bind_some, allV, List.all_cons]
    by_cases c : -1000000000000 ≤ l[i] ∧ l[i] ≤ 1000000000000
    · rw [if_pos (decide_eq_true c), decide_eq_true c, Bool.true_and]
    · rw [if_neg (by simpa using c), decide_eq_false c, Bool.false_and, Bool.false_and]

theorem impl_list_loop (l : List Int) (hm : l.length ≤ 35184372088832) : ∀ (d i : Nat), i + d = l.length → ∀ k, d < k → impl_areValues.l0 k l (l.length : Int) (i : Int) = some (allV (l.drop i)) := by
  intro d
  induction d with
  | zero =>
    intro i hi k hk
    obtain ⟨k, rfl⟩ : ∃ m, k = m + 1 := ⟨k - 1, by omega⟩
    rw [impl_areValues.l0, if_neg (by omega), List.drop_eq_nil_of_le (by omega)]; simp [allV]
  | succ d ih =>
    intro i hi k hk
    obtain ⟨k, rfl⟩ : ∃ m, k = m + 1 := ⟨k - 1, by omega⟩
    have hlt : i < l.length := by omega
    rw [impl_areValues.l0, if_pos (by omega), if_pos (by omega), if_pos (by omega), rd_nat l i hlt, impl_isValue_eq, wid ((i : Int) + 1) (by omega) (by omega), show (i : Int) + 1 = ((i + 1 : Nat) : Int) by omega, ih (i + 1) (by omega) k (by omega), List.drop_eq_getElem_cons hlt]
    simp only [Option.bind_some, allV, List.all_cons]
    by_cases c : -1000000000000 ≤ l[i] ∧ l[i] ≤ 1000000000000
    · rw [if_pos (decide_eq_true c), decide_eq_true c, Bool.true_and]
    · rw [if_neg (by simpa using c), decide_eq_false c, Bool.false_and]

theorem eq_list_loop (l : List Int) (hm : l.length ≤ 35184372088832) : ∀ (d i : Nat), i + d = l.length → ∀ k, d < k → laws_eqInt64S.l0 k l l (i : Int) = some true := by
  intro d
  induction d with
  | zero =>
    intro i hi k hk
    obtain ⟨k, rfl⟩ : ∃ m, k = m + 1 := ⟨k - 1, by omega⟩
    rw [laws_eqInt64S.l0, if_neg (by omega)]
  | succ d ih =>
    intro i hi k hk
    obtain ⟨k, rfl⟩ : ∃ m, k = m + 1 := ⟨k - 1, by omega⟩
    rw [laws_eqInt64S.l0, if_pos (by omega), if_pos (by omega), if_pos (by omega), if_pos rfl, wid ((i : Int) + 1) (by omega) (by omega), show (i : Int) + 1 = ((i + 1 : Nat) : Int) by omega, ih (i + 1) (by omega) k (by omega)]

theorem copy_list_loop (l : List Int) (hm : l.length ≤ 35184372088832) : ∀ (d i : Nat) (m : List Int), i + d = l.length → m.length = l.length → m.take i = l.take i → ∀ k, d < k → laws_toInt64S.l0 k l m (i : Int) = some l := by
  intro d
  induction d with
  | zero =>
    intro i m hi hl ht k hk
    obtain ⟨k, rfl⟩ : ∃ m, k = m + 1 := ⟨k - 1, by omega⟩
    rw [laws_toInt64S.l0, if_neg (by omega)]
    rw [List.take_of_length_le (by omega), List.take_of_length_le (by omega)] at ht
    rw [ht]
  | succ d ih =>
    intro i m hi hl ht k hk
    obtain ⟨k, rfl⟩ : ∃ m, k = m + 1 := ⟨k - 1, by omega⟩
    have hlt : i < l.length := by omega
    rw [laws_toInt64S.l0, if_pos (by omega), if_pos (by omega), if_pos (by omega), rd_nat l i hlt, wid ((i : Int) + 1) (by omega) (by omega), show (i : Int) + 1 = ((i + 1 : Nat) : Int) by omega, show ((i : Int)).toNat = i by omega]
    refine ih (i + 1) _ (by omega) (by simp [hl]) ?_ k (by omega)
    rw [List.take_add_one, List.take_add_one, List.take_set_of_le (by omega), ht, List.getElem?_set_self (by omega), List.getElem?_eq_getElem hlt]

theorem num_text (k : Nat) (x : Int) (h0 : -1000000000000 ≤ x) (h1 : x ≤ 1000000000000) : spec_l01Number.f (k + 20) x = some ⟨(Lib.itoa x).toArray⟩ ∧ (Lib.itoa x).length ≤ 21 := by
  have hd := digs_len 12 x.natAbs (by omega)
  have hl : (Lib.itoa x).length ≤ 21 := by
    unfold Lib.itoa
    by_cases c : x < 0
    · rw [if_pos c, List.length_cons]; omega
    · rw [if_neg c, show x.toNat = x.natAbs by omega]; omega
  refine ⟨?_, hl⟩
  unfold spec_l01Number.f Lib.itoa
  by_cases c : x < 0
  · rw [if_pos c, if_pos c, wid (-x) (by omega) (by omega), show -x = (x.natAbs : Int) by omega, dec_eq 12 x.natAbs (by omega) (by omega) (k + 20) (by omega)]
    simp only [Option.bind_some]
    rw [if_pos (by rw [ba_size]; omega)]
    exact congrArg some (ba_append [45] _)
  · rw [if_neg c, if_neg c, show x.toNat = x.natAbs by omega]
    have := dec_eq 12 x.natAbs (by omega) (by omega) (k + 20) (by omega)
    rw [show ((x.natAbs : Nat) : Int) = x by omega] at this
    rw [this]; rfl

theorem join_list_loop (l : List Int) (hm : l.length ≤ 100) (hv : ∀ x ∈ l, -1000000000000 ≤ x ∧ x ≤ 1000000000000) : ∀ (d i : Nat) (B : List UInt8), i + d = l.length → 0 < i → B.length ≤ 22 * i → ∀ k, d + 20 < k →
    spec_l01Join.l0 k l (⟨#[44]⟩ : ByteArray) (⟨B.toArray⟩ : ByteArray) (i : Int) = some ⟨(B ++ Lib.joinTail [44] ((l.drop i).map Lib.itoa)).toArray⟩ := by
  intro d
  induction d with
  | zero =>
    intro i B hi h0 hB k hk
    obtain ⟨k, rfl⟩ : ∃ m, k = m + 1 := ⟨k - 1, by omega⟩
    rw [spec_l01Join.l0, if_neg (by omega), List.drop_eq_nil_of_le (by omega)]; simp [Lib.joinTail]
  | succ d ih =>
    intro i B hi h0 hB k hk
    obtain ⟨k, rfl⟩ : ∃ m, k = m + 21 := ⟨k - 21, by omega⟩
    have hlt : i < l.length := by omega
    have hx := hv l[i] (List.getElem_mem hlt)
    obtain ⟨hn, hz⟩ := num_text k l[i] hx.1 hx.2
    rw [spec_l01Join.l0, if_pos (by omega), if_pos (by omega), if_pos (by have z2 := ba_size B; have z3 := ba_one 44; omega), if_pos (by omega), rd_nat l i hlt, hn]
    simp only [Option.bind_some]
    rw [if_pos (by have z1 := ba_size (Lib.itoa l[i]); have z2 := ba_size B; have z3 := ba_one 44; rw [ByteArray.size_append]; omega), wid ((i : Int) + 1) (by omega) (by omega), show (i : Int) + 1 = ((i + 1 : Nat) : Int) by omega, show (⟨#[44]⟩ : ByteArray) = ⟨[(44 : UInt8)].toArray⟩ from rfl, ba_append, ba_append]
    have := ih (i + 1) (B ++ [44] ++ Lib.itoa l[i]) (by omega) (by omega) (by simp; omega) (k + 20) (by omega)
    rw [show (⟨#[44]⟩ : ByteArray) = ⟨[(44 : UInt8)].toArray⟩ from rfl] at this
    rw [this, List.drop_eq_getElem_cons hlt, List.map_cons]
    refine congrArg some (congrArg ByteArray.mk (congrArg List.toArray ?_))
    simp only [Lib.joinTail, List.map_cons, List.flatten_cons, List.append_assoc]

theorem join_list (l : List Int) (h0 : 0 < l.length) (hm : l.length ≤ 100) (hv : ∀ x ∈ l, -1000000000000 ≤ x ∧ x ≤ 1000000000000) (k : Nat) (hk : 200 < k) :
    spec_l01Join.f k l (⟨#[44]⟩ : ByteArray) = some ⟨(Lib.join (l.map Lib.itoa) [44]).toArray⟩ := by
  obtain ⟨x, r, rfl⟩ : ∃ x r, l = x :: r := by cases l with
    | nil => simp at h0
    | cons x r => exact ⟨x, r, rfl⟩
  obtain ⟨k, rfl⟩ : ∃ m, k = m + 21 := ⟨k - 21, by omega⟩
  have hx := hv x (by simp)
  obtain ⟨hn, hz⟩ := num_text k x hx.1 hx.2
  unfold spec_l01Join.f
  rw [spec_l01Join.l0, if_pos (by simp), if_neg (by omega), if_pos (by omega), show rd (x :: r) 0 = x from rfl, hn]
  simp only [Option.bind_some]
  rw [if_pos (by have z1 := ba_size (Lib.itoa x); have z2 : (⟨#[]⟩ : ByteArray).size = 0 := rfl; omega), show (⟨#[]⟩ : ByteArray) = ⟨([] : List UInt8).toArray⟩ from rfl, ba_append, wid (0 + 1) (by omega) (by omega)]
  have := join_list_loop (x :: r) hm hv r.length 1 (Lib.itoa x) (by simp; omega) (by omega) (by omega) (k + 20) (by simp at hm; omega)
  rw [show ((1 : Nat) : Int) = 0 + 1 by omega] at this
  rw [List.nil_append, this]
  simp [Lib.join_cons]

def listAns (l : List Int) : ByteArray × Int := if allV l = true ∧ (l.length : Int) ≤ 100 then (if (l.length : Int) = 0 then (⟨#[45]⟩ : ByteArray) else ⟨(Lib.join (l.map Lib.itoa) [44]).toArray⟩, 0) else (⟨#[]⟩, 2)

theorem allV_mem {l : List Int} (h : allV l = true) : ∀ x ∈ l, -1000000000000 ≤ x ∧ x ≤ 1000000000000 := by
  intro x hx
  simp only [allV, List.all_eq_true, decide_eq_true_eq] at h
  exact h x hx

theorem spec_ListText_ans (l : List Int) (hm : l.length ≤ 1048576) (k : Nat) (hk : 1048800 < k) : spec_ListText.f k l = some (listAns l) := by
  have hs := spec_list_loop l (by omega) l.length 0 (by omega) k (by omega)
  rw [List.drop_zero, show ((0 : Nat) : Int) = 0 from rfl] at hs
  unfold spec_ListText.f spec_l01List.f listAns
  rw [hs]
  simp only [Option.bind_some]
  by_cases c : allV l = true ∧ (l.length : Int) ≤ 100
  · rw [if_pos c, if_pos (by rw [c.1, decide_eq_true c.2]; rfl)]
    unfold spec_l01Text.f
    by_cases c0 : (l.length : Int) = 0
    · rw [if_pos c0, if_pos c0, Option.bind_some]
    · rw [if_neg c0, if_neg c0, join_list l (by omega) (by omega) (allV_mem c.1) k (by omega)]; rfl
  · rw [if_neg c, if_neg (by simp only [Bool.and_eq_true, decide_eq_true_eq]; exact c)]

theorem joined_ok (l : List Int) (h0 : 0 < l.length) (hm : l.length ≤ 100) (hv : allV l = true) (k : Nat) : impl_joined.f k l = some ⟨(Lib.join (l.map Lib.itoa) [44]).toArray⟩ := by
  have hj := allV_mem hv
  unfold impl_joined.f
  rw [if_pos ?_]
  · refine congrArg some (congrArg ByteArray.mk (congrArg List.toArray ?_))
    congr 1
    rw [List.map_map, ]
    refine List.map_congr_left fun x _ => ?_
    simp [impl_joined.s]
  · unfold impl_joined.ok
    simp only [Bool.and_eq_true, List.all_eq_true, decide_eq_true_eq]
    exact ⟨⟨hj, h0⟩, by omega⟩

theorem impl_ListText_ans (l : List Int) (hm : l.length ≤ 1048576) (k : Nat) (hk : 1048800 < k) : impl_ListText.f k l = some (listAns l) := by
  obtain ⟨k, rfl⟩ : ∃ m, k = m + 1 := ⟨k - 1, by omega⟩
  unfold impl_ListText.f listAns
  by_cases c1 : (l.length : Int) > 100
  · rw [if_pos c1, if_neg (by omega), impl_ListText.j0, if_pos rfl]
  · rw [if_neg c1]
    have hs := impl_list_loop l (by omega) l.length 0 (by omega) (k + 1) (by omega)
    rw [List.drop_zero, show ((0 : Nat) : Int) = 0 from rfl] at hs
    unfold impl_areValues.f
    rw [hs]
    simp only [Option.bind_some]
    rw [impl_ListText.j0]
    by_cases c : allV l = true
    · rw [if_neg (by rw [c]; decide), if_pos (show allV l = true ∧ (l.length : Int) ≤ 100 from ⟨c, by omega⟩)]
      by_cases c0 : (l.length : Int) = 0
      · rw [if_pos c0, if_pos (by omega)]
      · rw [if_neg c0, if_neg (by omega), joined_ok l (by omega) (by omega) c k, Option.bind_some]
    · rw [if_pos (by simpa using c), if_neg (fun x : allV l = true ∧ (l.length : Int) ≤ 100 => c x.1)]

theorem toInt64S_same (l : List Int) (hm : l.length ≤ 1048576) (k : Nat) (hk : 1048800 < k) : laws_toInt64S.f k l = some l := by
  unfold laws_toInt64S.f
  rw [if_pos (by omega), if_pos (by omega), show (0 : Int) = ((0 : Nat) : Int) from rfl]
  exact copy_list_loop l (by omega) l.length 0 _ (by omega) (by simp) (by simp) k (by omega)

theorem eqInt64S_same (l : List Int) (hm : l.length ≤ 1048576) (k : Nat) (hk : 1048800 < k) : laws_eqInt64S.f k l l = some true := by
  unfold laws_eqInt64S.f
  rw [if_pos rfl, show (0 : Int) = ((0 : Nat) : Int) from rfl]
  exact eq_list_loop l (by omega) l.length 0 (by omega) k (by omega)

theorem FnExactListText (l : List Int) (h : l.length ≤ maxLen) (h8 : l.length * 8 ≤ 140737488351232) (hw : ∀ x ∈ l, (Lit.int .i64 x).wf = true) : ∃ k, laws_FnExactListText.f k l = some true := by
  refine ⟨1048900 + 1, ?_⟩
  generalize hk : 1048900 = k
  have hk2 : 1048800 < k := by omega
  unfold laws_FnExactListText.f
  by_cases c : (l.length : Int) > 1048576
  · rw [if_pos c]
  · have hm : l.length ≤ 1048576 := by omega
    rw [if_neg c, toInt64S_same l hm _ (by omega)]
    simp only [Option.bind_some]
    rw [spec_ListText_ans l hm _ (by omega)]
    simp only [Option.bind_some]
    rw [impl_ListText_ans l hm _ (by omega)]
    simp only [Option.bind_some]
    rw [if_pos trivial, laws_FnExactListText.j0, if_neg (by simp), toInt64S_same l hm k hk2]
    simp only [Option.bind_some]
    rw [eqInt64S_same l hm k hk2]
    rfl

end Go.Proofs.YtjheehbejehlaaaDoor.Pure
