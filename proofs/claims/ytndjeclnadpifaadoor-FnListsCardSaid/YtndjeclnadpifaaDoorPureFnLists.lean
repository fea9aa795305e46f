/- Proved: for every code the law FnLists returns true. Conditions: none. -/
import Derived.Test.YtndjeclnadpifaaDoorQFnListsx8
namespace Go.Proofs.YtndjeclnadpifaaDoor.Pure
open Go.RowKit Go.Proofs.YtndjeclnadpifaaDoor.PFnLists Go.Proofs.YtndjeclnadpifaaDoorW.PrintWords Go.Proofs.YtndjeclnadpifaaDoorW.PrintLast Go.Proofs.YtndjeclnadpifaaDoorW.PrintMore
set_option linter.unusedVariables false
set_option linter.unusedSimpArgs false

theorem wid (n : Int) (h0 : -9223372036854775808 ≤ n) (h1 : n ≤ 9223372036854775807) : wrap64 n = n := by unfold wrap64; omega

theorem tmodP (a b : Int) (h : 0 ≤ a) : a.tmod b = a % b := Int.tmod_eq_emod_of_nonneg h

theorem tdivP (a b : Int) (h : 0 ≤ a) : a.tdiv b = a / b := Int.tdiv_eq_ediv_of_nonneg h

theorem impl_in_eq (n lo hi : Int) : impl_in.f n lo hi = some (decide (lo ≤ n ∧ n ≤ hi)) := by
  unfold impl_in.f; by_cases h : n ≥ lo
  · rw [if_pos h]; simp [show lo ≤ n from h]
  · rw [if_neg h]; simp [show ¬ lo ≤ n from h]

theorem spec_in_eq (n lo hi : Int) : spec_l01In.f n lo hi = some (decide (lo ≤ n ∧ n ≤ hi)) := by
  unfold spec_l01In.f; by_cases h : n ≥ lo
  · rw [if_pos h]; simp [show lo ≤ n from h]
  · rw [if_neg h]; simp [show ¬ lo ≤ n from h]

theorem impl_isValue_eq (n : Int) : impl_isValue.f n = some (decide (-1000000000000 ≤ n ∧ n ≤ 1000000000000)) := by
  unfold impl_isValue.f; rw [impl_in_eq]; rfl

theorem spec_is_eq (n : Int) : spec_l01Is.f n = some (decide (-1000000000000 ≤ n ∧ n ≤ 1000000000000)) := by
  unfold spec_l01Is.f; rw [spec_in_eq]; rfl

/-- A source of draws over the code l: how many of its bytes are used, and its seed. -/
def src (l : List Int) (t s : Int) : Prop := (0 ≤ t ∧ t ≤ (l.length : Int)) ∧ (l.length ≤ 4096 ∧ ∀ x ∈ l, 0 ≤ x ∧ x ≤ 255) ∧ (0 ≤ s ∧ s < 2147483647)

theorem rd_byte (l : List Int) (h : ∀ x ∈ l, 0 ≤ x ∧ x ≤ 255) (i : Int) : 0 ≤ rd l i ∧ rd l i ≤ 255 := by
  unfold rd
  by_cases c : i.toNat < l.length
  · rw [List.getD_eq_getElem?_getD, List.getElem?_eq_getElem c]; exact h _ (List.getElem_mem c)
  · rw [List.getD_eq_getElem?_getD, List.getElem?_eq_none (by omega)]; simp

theorem from_loop (l : List Int) (hl : l.length ≤ 4096) (hb : ∀ x ∈ l, 0 ≤ x ∧ x ≤ 255) : ∀ (d : Nat) (i s : Int), 0 ≤ i → 64 - i ≤ d → 0 ≤ s → s < 2147483647 →
    ∃ s', (0 ≤ s' ∧ s' < 2147483647) ∧ ∀ k, d < k → spec_l01From.l0 k l i l 0 s = some (l, 0, s') := by
  intro d
  induction d with
  | zero =>
    intro i s h0 h1 h2 h3
    refine ⟨s, ⟨h2, h3⟩, fun k hk => ?_⟩
    obtain ⟨k, rfl⟩ : ∃ z, k = z + 1 := ⟨k - 1, by omega⟩
    simp only [spec_l01From.l0]
    by_cases c : i < (l.length : Int)
    · rw [if_pos c, if_neg (by omega)]
    · rw [if_neg c]
  | succ d ih =>
    intro i s h0 h1 h2 h3
    by_cases c : i < (l.length : Int)
    · by_cases c2 : i < 64
      · have hr := rd_byte l hb i
        have e1 : wrap64 (s * 71) = s * 71 := wid _ (by omega) (by omega)
        have e2 : wrap64 (rd l i) = rd l i := wid _ (by omega) (by omega)
        have e3 : wrap64 (s * 71 + rd l i) = s * 71 + rd l i := wid _ (by omega) (by omega)
        have e4 : Int.tmod (s * 71 + rd l i) 2147483647 = (s * 71 + rd l i) % 2147483647 := tmodP _ _ (by omega)
        obtain ⟨s', hs, hk⟩ := ih (i + 1) ((s * 71 + rd l i) % 2147483647) (by omega) (by omega) (by omega) (by omega)
        refine ⟨s', hs, fun k hk' => ?_⟩
        obtain ⟨k, rfl⟩ : ∃ z, k = z + 1 := ⟨k - 1, by omega⟩
        simp only [spec_l01From.l0]
        rw [if_pos c, if_pos c2, if_pos h0, e1, e2, e3, e4, wid (i + 1) (by omega) (by omega)]
        exact hk k (by omega)
      · refine ⟨s, ⟨h2, h3⟩, fun k hk => ?_⟩
        obtain ⟨k, rfl⟩ : ∃ z, k = z + 1 := ⟨k - 1, by omega⟩
        simp only [spec_l01From.l0]; rw [if_pos c, if_neg c2]
    · refine ⟨s, ⟨h2, h3⟩, fun k hk => ?_⟩
      obtain ⟨k, rfl⟩ : ∃ z, k = z + 1 := ⟨k - 1, by omega⟩
      simp only [spec_l01From.l0]; rw [if_neg c]

theorem from_eq (l : List Int) (hl : l.length ≤ 4096) (hb : ∀ x ∈ l, 0 ≤ x ∧ x ≤ 255) : ∃ s, src l 0 s ∧ ∀ k, 64 < k → spec_l01From.f k l = some (l, 0, s) := by
  obtain ⟨s, hs, hk⟩ := from_loop l hl hb 64 0 21013 (by omega) (by omega) (by omega) (by omega)
  exact ⟨s, ⟨⟨by omega, by omega⟩, ⟨hl, hb⟩, hs⟩, hk⟩

theorem next_eq {l : List Int} {t s : Int} (h : src l t s) (n : Int) (hn : n ≤ 1000000000000000000) : ∃ v t' s', spec_l01Next.f l t s n = some (v, t', s') ∧ src l t' s' ∧ 0 ≤ v ∧ (v < n ∨ v = 0 ∧ n ≤ 1) := by
  obtain ⟨⟨t0, t1⟩, ⟨l0, l1⟩, s0, s1⟩ := h
  unfold spec_l01Next.f
  by_cases c : n ≤ 1
  · rw [if_pos c]; exact ⟨0, t, s, rfl, ⟨⟨t0, t1⟩, ⟨l0, l1⟩, s0, s1⟩, by omega, .inr ⟨rfl, c⟩⟩
  · have e1 : wrap64 (s * 48271) = s * 48271 := wid _ (by omega) (by omega)
    have e2 : wrap64 (s * 48271 + 29) = s * 48271 + 29 := wid _ (by omega) (by omega)
    have e3 : Int.tmod (s * 48271 + 29) 2147483647 = (s * 48271 + 29) % 2147483647 := tmodP _ _ (by omega)
    rw [if_neg c, e1, e2, e3]
    generalize hq : (s * 48271 + 29) % 2147483647 = q
    have q0 : 0 ≤ q ∧ q < 2147483647 := by omega
    have e4 : wrap64 (Int.tdiv q 31) = q / 31 := by rw [tdivP _ _ q0.1]; exact wid _ (by omega) (by omega)
    have n0 : ¬ n = 0 := by omega
    rw [e4]
    have hm : ∀ x : Int, 0 ≤ x → 0 ≤ Int.tmod x n ∧ Int.tmod x n < n := by
      intro x hx
      rw [tmodP _ _ hx]; exact ⟨Int.emod_nonneg _ (by omega), Int.emod_lt_of_pos _ (by omega)⟩
    by_cases c1 : t < (l.length : Int)
    · have hr := rd_byte l l1 t
      have e5 : wrap64 (t + 1) = t + 1 := wid _ (by omega) (by omega)
      have e6 : wrap64 (rd l t) = rd l t := wid _ (by omega) (by omega)
      have e7 : wrap64 (q / 31 + rd l t) = q / 31 + rd l t := wid _ (by omega) (by omega)
      have e8 : wrap64 (t + 1 - 1) = t := by rw [show t + 1 - 1 = t by omega]; exact wid _ (by omega) (by omega)
      rw [if_pos c1, if_pos t0, e5, e8, e6, e7, if_neg n0, if_neg n0, if_pos t0, if_pos c1]
      have hs' : src l (t + 1) q := ⟨⟨by omega, by omega⟩, ⟨l0, l1⟩, q0.1, q0.2⟩
      have a1 := hm (rd l t) hr.1
      have a2 := hm (q / 31 + rd l t) (by omega)
      by_cases c2 : n ≤ 256
      · rw [if_pos c2]
        by_cases c3 : Int.tmod (t + 1) 2 = 0
        · rw [if_pos c3]; exact ⟨_, _, _, rfl, hs', a1.1, .inl a1.2⟩
        · rw [if_neg c3]; exact ⟨_, _, _, rfl, hs', a2.1, .inl a2.2⟩
      · rw [if_neg c2]; exact ⟨_, _, _, rfl, hs', a2.1, .inl a2.2⟩
    · have a3 := hm (q / 31) (by omega)
      rw [if_neg c1, if_neg n0]; exact ⟨_, _, _, rfl, ⟨⟨t0, t1⟩, ⟨l0, l1⟩, q0.1, q0.2⟩, a3.1, .inl a3.2⟩

theorem pick_eq {l : List Int} {t s : Int} (h : src l t s) (xs : List Int) (h1 : 0 < xs.length) (h2 : xs.length ≤ 100) : ∃ v t' s', spec_l01Pick.f l t s xs = some (v, t', s') ∧ src l t' s' ∧ v ∈ xs := by
  obtain ⟨v, t', s', e, hs, v0, v1⟩ := next_eq h (xs.length : Int) (by omega)
  unfold spec_l01Pick.f
  rw [e]; simp only [Option.bind_some]
  have hv : v < (xs.length : Int) := by omega
  rw [if_pos v0, if_pos hv]
  refine ⟨_, _, _, rfl, hs, ?_⟩
  unfold rd
  have hlt : v.toNat < xs.length := by omega
  rw [List.getD_eq_getElem?_getD, List.getElem?_eq_getElem hlt]; exact List.getElem_mem hlt

theorem drawValue_eq {l : List Int} {t s : Int} (h : src l t s) : ∃ v t' s', spec_l01DrawValue.f l t s = some (v, t', s') ∧ src l t' s' ∧ -2000000000000 ≤ v ∧ v ≤ 2000000000000 := by
  unfold spec_l01DrawValue.f
  obtain ⟨v1, t1, s1, e1, h1, b1, _⟩ := next_eq h 10 (by omega)
  rw [e1]; simp only [Option.bind_some]
  by_cases c : v1 = 0
  · obtain ⟨v2, t2, s2, e2, h2, m2⟩ := pick_eq h1 [0, 1000000000000, 1000000000001, (-1000000000000), (-1000000000001), 1] (by simp) (by simp)
    rw [if_pos c, e2]; simp only [Option.bind_some]
    refine ⟨v2, t2, s2, rfl, h2, ?_⟩
    simp only [List.mem_cons, List.not_mem_nil, or_false] at m2; omega
  · obtain ⟨v2, t2, s2, e2, h2, b2, c2⟩ := next_eq h1 41 (by omega)
    obtain ⟨v3, t3, s3, e3, h3, b3, c3⟩ := next_eq h2 2001 (by omega)
    obtain ⟨v4, t4, s4, e4, h4, b4, c4⟩ := next_eq h3 2000000001 (by omega)
    rw [if_neg c, e2]; simp only [Option.bind_some]
    rw [e3]; simp only [Option.bind_some]
    rw [e4]; simp only [Option.bind_some]
    rw [wid (v2 - 20) (by omega) (by omega), wid (v3 - 1000) (by omega) (by omega), wid (v4 - 1000000000) (by omega) (by omega)]
    obtain ⟨v5, t5, s5, e5, h5, m5⟩ := pick_eq h4 [v2 - 20, v3 - 1000, v4 - 1000000000] (by simp) (by simp)
    rw [e5]; simp only [Option.bind_some]
    refine ⟨v5, t5, s5, rfl, h5, ?_⟩
    simp only [List.mem_cons, List.not_mem_nil, or_false] at m5; omega

/-- What the laws over a code take of it. -/
theorem code_bytes {l : List Int} (h : ∀ x ∈ l, (Lit.int .u8 x).wf = true) : ∀ x ∈ l, 0 ≤ x ∧ x ≤ 255 := by
  intro x hx
  have := h x hx
  simp [Lit.wf, IntKind.min, IntKind.max, IntKind.signed, IntKind.bits] at this
  omega

theorem big_eq (l : List Int) : laws_big.f l = some (decide ((l.length : Int) > 4096)) := rfl

theorem dig1 (u : Nat) (h : u < 10) : Lib.decDigits u = [UInt8.ofNat (48 + u)] := by rw [Lib.decDigits, dif_pos h]

theorem dig2 (u : Nat) (h0 : 10 ≤ u) : Lib.decDigits u = Lib.decDigits (u / 10) ++ [UInt8.ofNat (48 + u % 10)] := by rw [Lib.decDigits, dif_neg (by omega)]

theorem digs_len : ∀ (d u : Nat), u < 10 ^ (d + 1) → (Lib.decDigits u).length ≤ d + 1 := by
  intro d
  induction d with
  | zero => intro u h; rw [dig1 u (by omega)]; simp
  | succ d ih =>
    intro u h
    by_cases c : u < 10
    · rw [dig1 u c]; simp
    · rw [dig2 u (by omega)]
      have := ih (u / 10) (by rw [Nat.pow_succ] at h; omega)
      simp only [List.length_append, List.length_cons, List.length_nil]; omega

theorem nums1 (x : Int) : strOfNums [x] = ⟨#[UInt8.ofNat x.toNat]⟩ := by simp [strOfNums]

theorem ba_append (l m : List UInt8) : (⟨l.toArray⟩ : ByteArray) ++ (⟨m.toArray⟩ : ByteArray) = ⟨(l ++ m).toArray⟩ := by
  apply ByteArray.ext
  simp [ByteArray.data_append]

theorem ba_size (l : List UInt8) : (⟨l.toArray⟩ : ByteArray).size = l.length := by simp [ByteArray.size]

/-- The specification's decimal numeral is the library's. -/
theorem dec_eq : ∀ (d : Nat) (u : Nat), u < 10 ^ (d + 1) → d ≤ 17 → ∀ k, d < k → spec_l01Dec.f k (u : Int) = some ⟨(Lib.decDigits u).toArray⟩ := by
  intro d
  induction d with
  | zero =>
    intro u h _ k hk
    obtain ⟨k, rfl⟩ : ∃ m, k = m + 1 := ⟨k - 1, by omega⟩
    rw [spec_l01Dec.f, if_pos (by omega), nums1, wid (48 + (u : Int)) (by omega) (by omega), dig1 u (by omega), show ((48 + (u : Int)) % 256).toNat = 48 + u by omega]
  | succ d ih =>
    intro u h hd k hk
    obtain ⟨k, rfl⟩ : ∃ m, k = m + 1 := ⟨k - 1, by omega⟩
    have hb : u < 10 ^ 18 := Nat.lt_of_lt_of_le h (Nat.pow_le_pow_right (by omega) (by omega))
    by_cases c : u < 10
    · rw [spec_l01Dec.f, if_pos (by omega), nums1, wid (48 + (u : Int)) (by omega) (by omega), dig1 u c, show ((48 + (u : Int)) % 256).toNat = 48 + u by omega]
    · have e1 : wrap64 (Int.tdiv (u : Int) 10) = ((u / 10 : Nat) : Int) := by rw [tdivP _ _ (by omega), wid _ (by omega) (by omega)]; omega
      have e2 : Int.tmod (u : Int) 10 = ((u % 10 : Nat) : Int) := by rw [tmodP _ _ (by omega)]; omega
      have hlen := digs_len d (u / 10) (by rw [Nat.pow_succ] at h; omega)
      rw [spec_l01Dec.f, if_neg (by omega), e1, ih (u / 10) (by rw [Nat.pow_succ] at h; omega) (by omega) k (by omega), e2, wid (48 + ((u % 10 : Nat) : Int)) (by omega) (by omega)]
      simp only [Option.bind_some]
      rw [nums1, show ((48 + ((u % 10 : Nat) : Int)) % 256).toNat = 48 + u % 10 by omega, if_pos (by rw [ba_size]; show _ + 1 ≤ _; omega), dig2 u (by omega)]
      exact congrArg some (ba_append _ [_])

theorem itoa_nat (u : Nat) : Lib.itoa (u : Int) = Lib.decDigits u := by unfold Lib.itoa; rw [if_neg (by omega)]; simp

theorem ba_one (x : UInt8) : (⟨#[x]⟩ : ByteArray).size = 1 := rfl

def allV (l : List Int) : Bool := l.all fun x => decide (-1000000000000 ≤ x ∧ x ≤ 1000000000000)

theorem rd_nat (l : List Int) (i : Nat) (h : i < l.length) : rd l (i : Int) = l[i] := by simp [rd, h]

theorem spec_list_loop (l : List Int) (hm : l.length ≤ 35184372088832) : ∀ (d i : Nat), i + d = l.length → ∀ k, d < k → spec_l01List.l0 k l (i : Int) = some (allV (l.drop i) && decide ((l.length : Int) ≤ 100)) := by
  intro d
  induction d with
  | zero =>
    intro i hi k hk
    obtain ⟨k, rfl⟩ : ∃ m, k = m + 1 := ⟨k - 1, by omega⟩
    rw [spec_l01List.l0, if_neg (by omega), List.drop_eq_nil_of_le (by omega)]; simp [allV]
  | succ d ih =>
    intro i hi k hk
    obtain ⟨k, rfl⟩ : ∃ m, k = m + 1 := ⟨k - 1, by omega⟩
    have hlt : i < l.length := by omega
    rw [spec_l01List.l0, if_pos (by omega), if_pos (by omega), rd_nat l i hlt, spec_is_eq, wid ((i : Int) + 1) (by omega) (by omega), show (i : Int) + 1 = ((i + 1 : Nat) : Int) by omega, ih (i + 1) (by omega) k (by omega), List.drop_eq_getElem_cons hlt]
    simp only [Option.bind_some, allV, List.all_cons]
    by_cases c : -1000000000000 ≤ l[i] ∧ l[i] ≤ 1000000000000
    · rw [if_pos (decide_eq_true c), decide_eq_true c, Bool.true_and]
    · rw [if_neg (by simpa using c), decide_eq_false c, Bool.false_and, Bool.false_and]

theorem impl_list_loop (l : List Int) (hm : l.length ≤ 35184372088832) : ∀ (d i : Nat), i + d = l.length → ∀ k, d < k → impl_areValues.l0 k l (l.length : Int) (i : Int) = some (allV (l.drop i)) := by
  intro d
  induction d with
  | zero =>
    intro i hi k hk
    obtain ⟨k, rfl⟩ : ∃ m, k = m + 1 := ⟨k - 1, by omega⟩
    rw [impl_areValues.l0, if_neg (by omega), List.drop_eq_nil_of_le (by omega)]; simp [allV]
  | succ d ih =>
    intro i hi k hk
    obtain ⟨k, rfl⟩ : ∃ m, k = m + 1 := ⟨k - 1, by omega⟩
    have hlt : i < l.length := by omega
    rw [impl_areValues.l0, if_pos (by omega), if_pos (by omega), if_pos (by omega), rd_nat l i hlt, impl_isValue_eq, wid ((i : Int) + 1) (by omega) (by omega), show (i : Int) + 1 = ((i + 1 : Nat) : Int) by omega, ih (i + 1) (by omega) k (by omega), List.drop_eq_getElem_cons hlt]
    simp only [Option.bind_some, allV, List.all_cons]
    by_cases c : -1000000000000 ≤ l[i] ∧ l[i] ≤ 1000000000000
    · rw [if_pos (decide_eq_true c), decide_eq_true c, Bool.true_and]
    · rw [if_neg (by simpa using c), decide_eq_false c, Bool.false_and]

theorem num_text (k : Nat) (x : Int) (h0 : -1000000000000 ≤ x) (h1 : x ≤ 1000000000000) : spec_l01Number.f (k + 20) x = some ⟨(Lib.itoa x).toArray⟩ ∧ (Lib.itoa x).length ≤ 21 := by
  have hd := digs_len 12 x.natAbs (by omega)
  have hl : (Lib.itoa x).length ≤ 21 := by
    unfold Lib.itoa
    by_cases c : x < 0
    · rw [if_pos c, List.length_cons]; omega
    · rw [if_neg c, show x.toNat = x.natAbs by omega]; omega
  refine ⟨?_, hl⟩
  unfold spec_l01Number.f Lib.itoa
  by_cases c : x < 0
  · rw [if_pos c, if_pos c, wid (-x) (by omega) (by omega), show -x = (x.natAbs : Int) by omega, dec_eq 12 x.natAbs (by omega) (by omega) (k + 20) (by omega)]
    simp only [Option.bind_some]
    rw [if_pos (by rw [ba_size]; omega)]
    exact congrArg some (ba_append [45] _)
  · rw [if_neg c, if_neg c, show x.toNat = x.natAbs by omega]
    have := dec_eq 12 x.natAbs (by omega) (by omega) (k + 20) (by omega)
    rw [show ((x.natAbs : Nat) : Int) = x by omega] at this
    rw [this]; rfl

theorem join_list_loop (l : List Int) (hm : l.length ≤ 100) (hv : ∀ x ∈ l, -1000000000000 ≤ x ∧ x ≤ 1000000000000) : ∀ (d i : Nat) (B : List UInt8), i + d = l.length → 0 < i → B.length ≤ 22 * i → ∀ k, d + 20 < k →
    spec_l01Join.l0 k l (⟨#[44]⟩ : ByteArray) (⟨B.toArray⟩ : ByteArray) (i : Int) = some ⟨(B ++ Lib.joinTail [44] ((l.drop i).map Lib.itoa)).toArray⟩ := by
  intro d
  induction d with
  | zero =>
    intro i B hi h0 hB k hk
    obtain ⟨k, rfl⟩ : ∃ m, k = m + 1 := ⟨k - 1, by omega⟩
    rw [spec_l01Join.l0, if_neg (by omega), List.drop_eq_nil_of_le (by omega)]; simp [Lib.joinTail]
  | succ d ih =>
    intro i B hi h0 hB k hk
    obtain ⟨k, rfl⟩ : ∃ m, k = m + 21 := ⟨k - 21, by omega⟩
    have hlt : i < l.length := by omega
    have hx := hv l[i] (List.getElem_mem hlt)
    obtain ⟨hn, hz⟩ := num_text k l[i] hx.1 hx.2
    rw [spec_l01Join.l0, if_pos (by omega), if_pos (by omega), if_pos (by have z2 := ba_size B; have z3 := ba_one 44; omega), if_pos (by omega), rd_nat l i hlt, hn]
    simp only [Option.bind_some]
    rw [if_pos (by have z1 := ba_size (Lib.itoa l[i]); have z2 := ba_size B; have z3 := ba_one 44; rw [ByteArray.size_append]; omega), wid ((i : Int) + 1) (by omega) (by omega), show (i : Int) + 1 = ((i + 1 : Nat) : Int) by omega, show (⟨#[44]⟩ : ByteArray) = ⟨[(44 : UInt8)].toArray⟩ from rfl, ba_append, ba_append]
    have := ih (i + 1) (B ++ [44] ++ Lib.itoa l[i]) (by omega) (by omega) (by simp; omega) (k + 20) (by omega)
    rw [show (⟨#[44]⟩ : ByteArray) = ⟨[(44 : UInt8)].toArray⟩ from rfl] at this
    rw [this, List.drop_eq_getElem_cons hlt, List.map_cons]
    refine congrArg some (congrArg ByteArray.mk (congrArg List.toArray ?_))
    simp only [Lib.joinTail, List.map_cons, List.flatten_cons, List.append_assoc]

theorem join_list (l : List Int) (h0 : 0 < l.length) (hm : l.length ≤ 100) (hv : ∀ x ∈ l, -1000000000000 ≤ x ∧ x ≤ 1000000000000) (k : Nat) (hk : 200 < k) :
    spec_l01Join.f k l (⟨#[44]⟩ : ByteArray) = some ⟨(Lib.join (l.map Lib.itoa) [44]).toArray⟩ := by
  obtain ⟨x, r, rfl⟩ : ∃ x r, l = x :: r := by cases l with
    | nil => simp at h0
    | cons x r => exact ⟨x, r, rfl⟩
  obtain ⟨k, rfl⟩ : ∃ m, k = m + 21 := ⟨k - 21, by omega⟩
  have hx := hv x (by simp)
  obtain ⟨hn, hz⟩ := num_text k x hx.1 hx.2
  unfold spec_l01Join.f
  rw [spec_l01Join.l0, if_pos (by simp), if_neg (by omega), if_pos (by omega), show rd (x :: r) 0 = x from rfl, hn]
  simp only [Option.bind_some]
  rw [if_pos (by have z1 := ba_size (Lib.itoa x); have z2 : (⟨#[]⟩ : ByteArray).size = 0 := rfl; omega), show (⟨#[]⟩ : ByteArray) = ⟨([] : List UInt8).toArray⟩ from rfl, ba_append, wid (0 + 1) (by omega) (by omega)]
  have := join_list_loop (x :: r) hm hv r.length 1 (Lib.itoa x) (by simp; omega) (by omega) (by omega) (k + 20) (by simp at hm; omega)
  rw [show ((1 : Nat) : Int) = 0 + 1 by omega] at this
  rw [List.nil_append, this]
  simp [Lib.join_cons]

def listAns (l : List Int) : ByteArray × Int := if allV l = true ∧ (l.length : Int) ≤ 100 then (if (l.length : Int) = 0 then (⟨#[45]⟩ : ByteArray) else ⟨(Lib.join (l.map Lib.itoa) [44]).toArray⟩, 0) else (⟨#[]⟩, 2)

theorem allV_mem {l : List Int} (h : allV l = true) : ∀ x ∈ l, -1000000000000 ≤ x ∧ x ≤ 1000000000000 := by
  intro x hx
  simp only [allV, List.all_eq_true, decide_eq_true_eq] at h
  exact h x hx

theorem spec_ListText_ans (l : List Int) (hm : l.length ≤ 1048576) (k : Nat) (hk : 1048800 < k) : spec_ListText.f k l = some (listAns l) := by
  have hs := spec_list_loop l (by omega) l.length 0 (by omega) k (by omega)
  rw [List.drop_zero, show ((0 : Nat) : Int) = 0 from rfl] at hs
  unfold spec_ListText.f spec_l01List.f listAns
  rw [hs]
  simp only [Option.bind_some]
  by_cases c : allV l = true ∧ (l.length : Int) ≤ 100
  · rw [if_pos c, if_pos (by rw [c.1, decide_eq_true c.2]; rfl)]
    unfold spec_l01Text.f
    by_cases c0 : (l.length : Int) = 0
    · rw [if_pos c0, if_pos c0, Option.bind_some]
    · rw [if_neg c0, if_neg c0, join_list l (by omega) (by omega) (allV_mem c.1) k (by omega)]; rfl
  · rw [if_neg c, if_neg (by simp only [Bool.and_eq_true, decide_eq_true_eq]; exact c)]

theorem joined_ok (l : List Int) (h0 : 0 < l.length) (hm : l.length ≤ 100) (hv : allV l = true) (k : Nat) : impl_joined.f k l = some ⟨(Lib.join (l.map Lib.itoa) [44]).toArray⟩ := by
  have hj := allV_mem hv
  unfold impl_joined.f
  rw [if_pos ?_]
  · refine congrArg some (congrArg ByteArray.mk (congrArg List.toArray ?_))
    congr 1
    rw [List.map_map, ]
    refine List.map_congr_left fun x _ => ?_
    simp [impl_joined.s]
  · unfold impl_joined.ok
    simp only [Bool.and_eq_true, List.all_eq_true, decide_eq_true_eq]
    exact ⟨⟨hj, h0⟩, by omega⟩

theorem impl_ListText_ans (l : List Int) (hm : l.length ≤ 1048576) (k : Nat) (hk : 1048800 < k) : impl_ListText.f k l = some (listAns l) := by
  obtain ⟨k, rfl⟩ : ∃ m, k = m + 1 := ⟨k - 1, by omega⟩
  unfold impl_ListText.f listAns
  by_cases c1 : (l.length : Int) > 100
  · rw [if_pos c1, if_neg (by omega), impl_ListText.j0, if_pos rfl]
  · rw [if_neg c1]
    have hs := impl_list_loop l (by omega) l.length 0 (by omega) (k + 1) (by omega)
    rw [List.drop_zero, show ((0 : Nat) : Int) = 0 from rfl] at hs
    unfold impl_areValues.f
    rw [hs]
    simp only [Option.bind_some]
    rw [impl_ListText.j0]
    by_cases c : allV l = true
    · rw [if_neg (by rw [c]; decide), if_pos (show allV l = true ∧ (l.length : Int) ≤ 100 from ⟨c, by omega⟩)]
      by_cases c0 : (l.length : Int) = 0
      · rw [if_pos c0, if_pos (by omega)]
      · rw [if_neg c0, if_neg (by omega), joined_ok l (by omega) (by omega) c k, Option.bind_some]
    · rw [if_pos (by simpa using c), if_neg (fun x : allV l = true ∧ (l.length : Int) ≤ 100 => c x.1)]

def valD (a : Nat) (l : List UInt8) : Nat := l.foldl (fun x c => x * 10 + (c.toNat - 48)) a

theorem valD_nil (a : Nat) : valD a [] = a := rfl

theorem valD_cons (a : Nat) (c : UInt8) (r : List UInt8) : valD a (c :: r) = valD (a * 10 + (c.toNat - 48)) r := by unfold valD; rw [List.foldl_cons]

def isD (c : UInt8) : Prop := 48 ≤ c.toNat ∧ c.toNat ≤ 57

theorem valD_append (l m : List UInt8) (a : Nat) : valD a (l ++ m) = valD (valD a l) m := List.foldl_append

theorem valD_ge (l : List UInt8) : ∀ a : Nat, a ≤ valD a l := by
  induction l with
  | nil => intro a; exact Nat.le_refl _
  | cons c r ih =>
    intro a
    rw [valD_cons]
    have := ih (a * 10 + (c.toNat - 48))
    omega

theorem u8_dig (u : Nat) (h : u < 10) : (UInt8.ofNat (48 + u)).toNat = 48 + u := by
  rw [UInt8.toNat_ofNat']; omega

theorem digs_isD : ∀ (d u : Nat), u < 10 ^ (d + 1) → (∀ c ∈ Lib.decDigits u, isD c) ∧ valD 0 (Lib.decDigits u) = u ∧ 0 < (Lib.decDigits u).length := by
  intro d
  induction d with
  | zero =>
    intro u h
    rw [dig1 u (by omega)]
    have := u8_dig u (by omega)
    refine ⟨?_, ?_, by simp⟩
    · intro c hc
      rw [List.mem_singleton] at hc
      subst hc
      unfold isD; omega
    · rw [valD_cons, valD_nil]; omega
  | succ d ih =>
    intro u h
    by_cases c : u < 10
    · rw [dig1 u c]
      have := u8_dig u c
      refine ⟨?_, ?_, by simp⟩
      · intro c hc
        rw [List.mem_singleton] at hc
        subst hc
        unfold isD; omega
      · rw [valD_cons, valD_nil]; omega
    · rw [dig2 u (by omega)]
      obtain ⟨h1, h2, h3⟩ := ih (u / 10) (by rw [Nat.pow_succ] at h; omega)
      have := u8_dig (u % 10) (by omega)
      refine ⟨?_, ?_, by simp⟩
      · intro c hc
        rw [List.mem_append, List.mem_singleton] at hc
        rcases hc with hc | hc
        · exact h1 c hc
        · subst hc; unfold isD; omega
      · rw [valD_append, h2, valD_cons, valD_nil]; omega

theorem parse_digs (M : Nat) (l : List UInt8) : ∀ (a : Nat), (∀ c ∈ l, isD c) → valD a l ≤ M → valD a l < 10000000000000000000 → Lib.parseUintM M a l = .ok (valD a l) := by
  induction l with
  | nil => intro a _ _ _; rfl
  | cons c r ih =>
    intro a hd hM hT
    have hc := hd c (by simp)
    unfold isD at hc
    rw [valD_cons] at hM hT ⊢
    have hg := valD_ge r (a * 10 + (c.toNat - 48))
    rw [Lib.parseUintM, if_pos hc, if_neg (by omega), if_neg (by omega)]
    exact ih _ (fun x hx => hd x (by simp [hx])) hM hT

theorem parse_dec (u : Nat) (h : u < 1000000000000000000) : Lib.parseUintB 64 (Lib.decDigits u) = .ok u := by
  obtain ⟨h1, h2, h3⟩ := digs_isD 17 u (by omega)
  unfold Lib.parseUintB
  rw [if_neg (by intro e; rw [e] at h3; simp at h3), parse_digs _ _ 0 h1 (by rw [h2]; omega) (by rw [h2]; omega), h2]

theorem parse_itoa (v : Int) (h0 : -1000000000000000000 < v) (h1 : v < 1000000000000000000) : Lib.parseIntB 64 (Lib.itoa v) = .ok v := by
  have hp := parse_dec v.natAbs (by omega)
  unfold Lib.itoa
  by_cases c : v < 0
  · rw [if_pos c, Lib.parseIntB_minus, hp, Lib.signedC, if_neg (by omega)]
    congr 1; omega
  · rw [if_neg c, show v.toNat = v.natAbs by omega]
    obtain ⟨d1, d2, d3⟩ := digs_isD 17 v.natAbs (by omega)
    cases e : Lib.decDigits v.natAbs with
    | nil => rw [e] at d3; simp at d3
    | cons b r =>
      rw [e] at d1 hp
      have hb := d1 b (by simp)
      unfold isD at hb
      rw [Lib.parseIntB_plain 64 b r (by omega) (by omega), hp, Lib.signlessC, if_neg (by omega)]
      congr 1; omega

def encI (x : Int) : ByteArray := ⟨(Lib.itoa x).toArray⟩

theorem ba_eq {s t : ByteArray} (h : (s.toList == t.toList) = true) : s = t := by
  have h := beq_iff_eq.1 h
  rw [ByteArray.toList_eq, ByteArray.toList_eq] at h
  obtain ⟨⟨a⟩⟩ := s
  obtain ⟨⟨b⟩⟩ := t
  simp at h
  rw [h]

theorem ba_beq (s : ByteArray) : (s.toList == s.toList) = true := beq_self_eq_true _

theorem itoa_len19 (v : Int) (h0 : -1000000000000000000 < v) (h1 : v < 1000000000000000000) : (Lib.itoa v).length ≤ 19 := by
  have := digs_len 17 v.natAbs (by omega)
  unfold Lib.itoa
  split
  · simp only [List.length_cons]; omega
  · rw [show v.toNat = v.natAbs by omega]; omega

/-- impl: total, and what it accepts is canonical. -/
theorem readDec_total (k : Nat) (w : ByteArray) : ∃ r, impl_readDecimal.f k w = some r ∧ (r.2 = true → w = encI r.1) := by
  unfold impl_readDecimal.f
  by_cases c : w.size > 19
  · exact ⟨_, by rw [if_pos c], fun h => absurd h (by simp)⟩
  · rw [if_neg c]
    cases hp : Lib.parseIntB 64 w.data.toList
    · rename_i v
      have hb := Lib.parseIntB_bounds hp
      have e : (2 : Nat) ^ (64 - 1) = 9223372036854775808 := by decide
      rw [e] at hb
      have hd : impl_decimal.f k v = some (encI v) := by unfold impl_decimal.f encI; rw [if_pos (by omega), if_pos (by omega)]
      refine ⟨(v, (encI v).toList == w.toList), ?_, fun h => (ba_eq h).symm⟩
      simp only [hd, Option.bind_some]
    · exact ⟨_, rfl, fun h => absurd h (by simp)⟩
    · exact ⟨_, rfl, fun h => absurd h (by simp)⟩

theorem readDec_of (k : Nat) (v : Int) (h0 : -1000000000000000000 < v) (h1 : v < 1000000000000000000) : impl_readDecimal.f k (encI v) = some (v, true) := by
  have hl := itoa_len19 v h0 h1
  have hp := parse_itoa v h0 h1
  have hd : impl_decimal.f k v = some (encI v) := by unfold impl_decimal.f encI; rw [if_pos (by omega), if_pos (by omega)]
  unfold impl_readDecimal.f
  rw [if_neg (by unfold encI; rw [ba_size]; omega)]
  have e : (encI v).data.toList = Lib.itoa v := by unfold encI; simp
  rw [e, hp]
  simp only [hd, Option.bind_some, ba_beq]
/-! spec -/

theorem bt_nat (w : ByteArray) (i : Nat) (h : i < w.size) : bt w (i : Int) = (w.data.toList[i]'(by rw [data_length]; exact h)).toNat := by
  unfold bt
  rw [dif_pos (by simpa using h)]
  rfl

theorem spec_value_loop (w : ByteArray) (hs : w.size ≤ 13) : ∀ (d i : Nat) (x : Nat), i + d = w.size → x < 10 ^ i → ∀ k, d + 30 < k →
    ∃ r, spec_l01Value.l0 k w (x : Int) (i : Int) = some r ∧ (r.2 = true → ∃ u : Nat, u < 10 ^ 13 ∧ r.1 = (u : Int) ∧ w = ⟨(Lib.decDigits u).toArray⟩) := by
  intro d
  induction d with
  | zero =>
    intro i x hi hx k hk
    obtain ⟨k, rfl⟩ : ∃ m, k = m + 1 := ⟨k - 1, by omega⟩
    have hx13 : x < 10 ^ 13 := Nat.lt_of_lt_of_le hx (Nat.pow_le_pow_right (by omega) (by omega))
    refine ⟨((x : Int), (⟨(Lib.decDigits x).toArray⟩ : ByteArray).toList == w.toList), ?_, fun h => ⟨x, hx13, rfl, (ba_eq h).symm⟩⟩
    rw [spec_l01Value.l0, if_neg (by omega), dec_eq 12 x (by omega) (by omega) k (by omega)]
    rfl
  | succ d ih =>
    intro i x hi hx k hk
    obtain ⟨k, rfl⟩ : ∃ m, k = m + 1 := ⟨k - 1, by omega⟩
    have hr := bt_range w (i : Int)
    have hx12 : x < 10 ^ 12 := Nat.lt_of_lt_of_le hx (Nat.pow_le_pow_right (by omega) (by omega))
    rw [spec_l01Value.l0, if_pos (by omega), if_pos (by omega)]
    by_cases c1 : bt w (i : Int) < 48
    · exact ⟨_, by rw [if_pos c1], fun h => absurd h (by simp)⟩
    · rw [if_neg c1]
      by_cases c2 : bt w (i : Int) > 57
      · exact ⟨_, by rw [if_pos c2], fun h => absurd h (by simp)⟩
      · rw [if_neg c2, wid (10 * (x : Int)) (by omega) (by omega), wid (10 * (x : Int) + (bt w (i : Int) - 48) % 256) (by omega) (by omega), wid ((i : Int) + 1) (by omega) (by omega)]
        have := ih (i + 1) (10 * x + ((bt w (i : Int) - 48) % 256).toNat) (by omega) (by rw [Nat.pow_succ]; omega) k (by omega)
        rw [show ((10 * x + ((bt w (i : Int) - 48) % 256).toNat : Nat) : Int) = 10 * (x : Int) + (bt w (i : Int) - 48) % 256 by omega, show ((i + 1 : Nat) : Int) = (i : Int) + 1 by omega] at this
        exact this

theorem spec_value_total (w : ByteArray) (k : Nat) : ∃ r, spec_l01Value.f (k + 100) w = some r ∧ (r.2 = true → ∃ u : Nat, u < 10 ^ 13 ∧ r.1 = (u : Int) ∧ w = ⟨(Lib.decDigits u).toArray⟩) := by
  unfold spec_l01Value.f
  by_cases c : (w.size : Int) < 1
  · rw [if_pos c, spec_l01Value.j0, if_pos rfl]
    exact ⟨_, rfl, fun h => absurd h (by simp)⟩
  · rw [if_neg c, spec_l01Value.j0]
    by_cases c1 : (w.size : Int) > 13
    · rw [if_pos (by simpa using c1)]
      exact ⟨_, rfl, fun h => absurd h (by simp)⟩
    · rw [if_neg (by simpa using c1)]
      exact spec_value_loop w (by omega) w.size 0 0 (by omega) (by decide) (k + 99) (by omega)

theorem spec_value_dig (l : List UInt8) (hl : l.length ≤ 13) (hd : ∀ c ∈ l, isD c) (hv : (⟨(Lib.decDigits (valD 0 l)).toArray⟩ : ByteArray) = ⟨l.toArray⟩) (hb : valD 0 l < 10 ^ 13) : ∀ (d i : Nat), i + d = l.length → ∀ k, d + 30 < k →
    spec_l01Value.l0 k (⟨l.toArray⟩ : ByteArray) ((valD 0 (l.take i) : Nat) : Int) (i : Int) = some (((valD 0 l : Nat) : Int), true) := by
  intro d
  induction d with
  | zero =>
    intro i hi k hk
    obtain ⟨k, rfl⟩ : ∃ m, k = m + 1 := ⟨k - 1, by omega⟩
    rw [spec_l01Value.l0, if_neg (by rw [ba_size]; omega), List.take_of_length_le (by omega), dec_eq 12 _ (by omega) (by omega) k (by omega)]
    simp only [Option.bind_some]
    rw [hv, ba_beq]
  | succ d ih =>
    intro i hi k hk
    obtain ⟨k, rfl⟩ : ∃ m, k = m + 1 := ⟨k - 1, by omega⟩
    have hlt : i < l.length := by omega
    have hc := hd l[i] (List.getElem_mem hlt)
    unfold isD at hc
    have hbt : bt (⟨l.toArray⟩ : ByteArray) (i : Int) = (l[i].toNat : Int) := by rw [bt_nat _ i (by rw [ba_size]; exact hlt)]
    have hn : valD 0 (l.take (i + 1)) = valD 0 (l.take i) * 10 + (l[i].toNat - 48) := by
      rw [List.take_add_one, List.getElem?_eq_getElem hlt, valD_append]; rfl
    have hle : valD 0 (l.take (i + 1)) ≤ valD 0 l := by
      conv => rhs; rw [← List.take_append_drop (i + 1) l]
      rw [valD_append]; exact valD_ge _ _
    rw [spec_l01Value.l0, if_pos (by rw [ba_size]; omega), if_pos (by omega), hbt, if_neg (by omega), if_neg (by omega), wid (10 * _) (by omega) (by omega), wid (10 * _ + _) (by omega) (by omega), wid ((i : Int) + 1) (by omega) (by omega)]
    have := ih (i + 1) (by omega) k (by omega)
    rw [hn, show ((valD 0 (l.take i) * 10 + (l[i].toNat - 48) : Nat) : Int) = 10 * ((valD 0 (l.take i) : Nat) : Int) + ((l[i].toNat : Int) - 48) % 256 by omega, show ((i + 1 : Nat) : Int) = (i : Int) + 1 by omega] at this
    exact this

theorem spec_value_of (u k : Nat) (h : u < 10 ^ 13) : spec_l01Value.f (k + 100) (⟨(Lib.decDigits u).toArray⟩ : ByteArray) = some ((u : Int), true) := by
  obtain ⟨h1, h2, h3⟩ := digs_isD 17 u (by omega)
  have hl := digs_len 12 u (by omega)
  have := spec_value_dig (Lib.decDigits u) (by omega) h1 (by rw [h2]) (by rw [h2]; exact h) (Lib.decDigits u).length 0 (by omega) (k + 99) (by omega)
  unfold spec_l01Value.f
  rw [ba_size, if_neg (by omega), spec_l01Value.j0, if_neg (by simp; omega)]
  rw [h2] at this
  exact this

theorem ba_extract1 (w : ByteArray) : (w.extract 1 w.size).data.toList = w.data.toList.drop 1 := Lib.extract_to_end w 1

theorem ba_mk {w : ByteArray} {l : List UInt8} (h : w.data.toList = l) : w = ⟨l.toArray⟩ := by subst h; rfl

theorem spec_signed_total (w : ByteArray) (k : Nat) : ∃ r, spec_l01Signed.f (k + 110) w = some r ∧ (r.2 = true → w = encI r.1 ∧ -10000000000000 < r.1 ∧ r.1 < 10000000000000) := by
  unfold spec_l01Signed.f
  by_cases c : (w.size : Int) > 0
  · rw [if_pos c, if_pos c, spec_l01Signed.j0]
    by_cases c1 : (bt w 0 == 45) = true
    · rw [if_pos c1, if_pos (by omega)]
      obtain ⟨r, hr, hq⟩ := spec_value_total (w.extract 1 w.size) (k + 9)
      rw [show k + 109 = k + 9 + 100 by omega, hr]
      simp only [Option.bind_some]
      by_cases c2 : r.2 = true
      · rw [if_pos c2]
        refine ⟨_, rfl, fun h => ?_⟩
        obtain ⟨u, hu, e1, e2⟩ := hq c2
        simp only at h
        have hu0 : (0 : Int) < u := by rw [e1] at h; simpa using h
        have hw : w.data.toList = Lib.itoa (-(u : Int)) := by
          have hs : 0 < w.data.toList.length := by rw [data_length]; omega
          have e3 := ba_extract1 w
          rw [e2] at e3
          have hb0 := bt_nat w 0 (by omega)
          have c3 : bt w 0 = 45 := by simpa using c1
          rw [show ((0 : Nat) : Int) = 0 from rfl, c3] at hb0
          unfold Lib.itoa
          rw [if_pos (by omega), show (-(u : Int)).natAbs = u by omega]
          cases e4 : w.data.toList with
          | nil => rw [e4] at hs; simp at hs
          | cons b q =>
            simp only [e4, List.getElem_cons_zero] at hb0
            rw [e4] at e3
            have : b = 45 := UInt8.toNat_inj.1 (by have : (45 : UInt8).toNat = 45 := rfl; omega)
            rw [this]
            simp only [List.drop_succ_cons, List.drop_zero] at e3
            rw [← e3]
        rw [e1]
        simp only []
        rw [wid (-(u : Int)) (by omega) (by omega)]
        exact ⟨ba_mk hw, by omega, by omega⟩
      · rw [if_neg c2]
        exact ⟨_, rfl, fun h => absurd h (by simp)⟩
    · rw [if_neg c1]
      obtain ⟨r, hr, hq⟩ := spec_value_total w (k + 9)
      rw [show k + 109 = k + 9 + 100 by omega, hr]
      refine ⟨_, rfl, fun h => ?_⟩
      obtain ⟨u, hu, e1, e2⟩ := hq h
      simp only [e1]
      refine ⟨?_, by omega, by omega⟩
      unfold encI
      rw [itoa_nat]; exact e2
  · rw [if_neg c, spec_l01Signed.j0, if_neg (by simp)]
    obtain ⟨r, hr, hq⟩ := spec_value_total w (k + 9)
    rw [show k + 109 = k + 9 + 100 by omega, hr]
    refine ⟨_, rfl, fun h => ?_⟩
    obtain ⟨u, hu, e1, e2⟩ := hq h
    simp only [e1]
    refine ⟨?_, by omega, by omega⟩
    unfold encI
    rw [itoa_nat]; exact e2

theorem spec_signed_of (v : Int) (h0 : -10000000000000 < v) (h1 : v < 10000000000000) (k : Nat) : spec_l01Signed.f (k + 110) (encI v) = some (v, true) := by
  have hval := spec_value_of v.natAbs (k + 9) (by omega)
  rw [show k + 9 + 100 = k + 109 by omega] at hval
  obtain ⟨d1, d2, d3⟩ := digs_isD 17 v.natAbs (by omega)
  unfold spec_l01Signed.f encI Lib.itoa
  by_cases c : v < 0
  · rw [if_pos c, ba_size, if_pos (by simp), if_pos (by simp), spec_l01Signed.j0, if_pos (by rw [show (0 : Int) = ((0 : Nat) : Int) from rfl, bt_nat _ 0 (by rw [ba_size]; simp)]; rfl), if_pos (by rw [ba_size]; simp; omega)]
    have e : (⟨(45 :: Lib.decDigits v.natAbs).toArray⟩ : ByteArray).extract 1 (⟨(45 :: Lib.decDigits v.natAbs).toArray⟩ : ByteArray).size = ⟨(Lib.decDigits v.natAbs).toArray⟩ := ba_mk (by rw [ba_extract1]; rfl)
    rw [e, hval]
    simp only [Option.bind_some, if_true]
    rw [wid (-(v.natAbs : Int)) (by omega) (by omega), decide_eq_true (by omega)]
    congr 2; omega
  · rw [if_neg c, show v.toNat = v.natAbs by omega, ba_size, if_pos (by omega), if_pos (by omega), spec_l01Signed.j0, if_neg (by
      rw [show (0 : Int) = ((0 : Nat) : Int) from rfl, bt_nat _ 0 (by rw [ba_size]; omega)]
      have := d1 _ (List.getElem_mem d3)
      unfold isD at this
      simp only [beq_iff_eq]
      intro e
      have e2 : (Lib.decDigits v.natAbs)[0].toNat = 45 := by exact_mod_cast e
      omega)]
    rw [hval]
    simp only [Option.bind_some]
    congr 2; omega

def mkB (l : List UInt8) : ByteArray := ⟨l.toArray⟩

theorem data_mkB (l : List UInt8) : (mkB l).data.toList = l := by simp [mkB]

/-- A text cut at every occurrence of a byte; cur: the piece that has begun. -/
def cutAt (c : UInt8) : List UInt8 → List UInt8 → List (List UInt8)
  | cur, [] => [cur]
  | cur, b :: r => if b = c then cur :: cutAt c [] r else cutAt c (cur ++ [b]) r

theorem cutAt_len (c : UInt8) : ∀ (l cur : List UInt8), (cutAt c cur l).length ≤ l.length + 1
  | [], _ => by simp [cutAt]
  | b :: r, cur => by
    unfold cutAt
    split
    · have := cutAt_len c r []
      simp only [List.length_cons]; omega
    · have := cutAt_len c r (cur ++ [b])
      simp only [List.length_cons]; omega

theorem pre_one (b c : UInt8) (l : List UInt8) : List.isPrefixOf [c] (b :: l) = (c == b) := by simp [List.isPrefixOf]

theorem cutAt_index (c : UInt8) : ∀ (l cur : List UInt8),
    (Lib.index l [c] = -1 ∧ cutAt c cur l = [cur ++ l] ∧ l.count c = 0) ∨ (∃ i : Nat, Lib.index l [c] = (i : Int) ∧ cutAt c cur l = (cur ++ l.take i) :: cutAt c [] (l.drop (i + 1)) ∧ l.count c = (l.drop (i + 1)).count c + 1)
  | [], cur => .inl ⟨rfl, by simp [cutAt], rfl⟩
  | b :: r, cur => by
    by_cases h : b = c
    · subst h
      refine .inr ⟨0, ?_, ?_, ?_⟩
      · rw [Lib.index, pre_one, if_pos (beq_self_eq_true b)]; rfl
      · rw [cutAt, if_pos rfl]; simp
      · simp
    · have hb : (c == b) = false := beq_eq_false_iff_ne.2 (fun e => h e.symm)
      rcases cutAt_index c r (cur ++ [b]) with ⟨h1, h2, h3⟩ | ⟨i, h1, h2, h3⟩
      · refine .inl ⟨?_, ?_, ?_⟩
        · rw [Lib.index, pre_one, hb, if_neg (by simp), h1]; rfl
        · rw [cutAt, if_neg h, h2]; simp
        · rw [List.count_cons_of_ne h, h3]
      · refine .inr ⟨i + 1, ?_, ?_, ?_⟩
        · rw [Lib.index, pre_one, hb, if_neg (by simp), h1, if_neg (by simp)]; rfl
        · rw [cutAt, if_neg h, h2]; simp
        · rw [List.count_cons_of_ne h, h3]; simp

theorem splitK_cut (c : UInt8) : ∀ (k : Nat) (l : List UInt8), l.count c ≤ k → Lib.splitK [c] 0 k l = cutAt c [] l := by
  intro k
  induction k with
  | zero =>
    intro l h
    rcases cutAt_index c l [] with ⟨h1, h2, h3⟩ | ⟨i, h1, h2, h3⟩
    · rw [h2]; rfl
    · omega
  | succ k ih =>
    intro l h
    rcases cutAt_index c l [] with ⟨h1, h2, h3⟩ | ⟨i, h1, h2, h3⟩
    · rw [Lib.splitK, h1, h2]; rfl
    · rw [Lib.splitK, h1, h2, if_neg (by simp), ih _ (by simp; omega)]
      simp

theorem splitB_cut (c : UInt8) (s : ByteArray) : Lib.splitB (⟨#[c]⟩ : ByteArray) 0 (Lib.countB s (⟨#[c]⟩ : ByteArray)) s = (cutAt c [] s.data.toList).map mkB := by
  have h := Lib.splitB_data (⟨#[c]⟩ : ByteArray) 0 (Lib.countB s (⟨#[c]⟩ : ByteArray)) s
  rw [show (⟨#[c]⟩ : ByteArray).data.toList = [c] from rfl, splitK_cut c _ _ (by
    rw [show Lib.countB s (⟨#[c]⟩ : ByteArray) = Lib.count s.data.toList [c] from rfl, Lib.count_one]; exact Nat.le_refl _)] at h
  rw [← h, List.map_map]
  conv => lhs; rw [← List.map_id (Lib.splitB _ _ _ _)]
  exact List.map_congr_left fun x _ => rfl

theorem impl_split (k : Nat) (s : ByteArray) (hs : s.size ≤ 1048576) (c : UInt8) : strings_Split.f k s (⟨#[c]⟩ : ByteArray) = some ((cutAt c [] s.data.toList).map mkB) := by
  unfold strings_Split.f
  rw [if_pos ⟨by omega, by rw [ba_one]; omega⟩, splitB_cut]

theorem ba_extract (w : ByteArray) (a b : Nat) : w.extract a b = mkB ((w.data.toList.drop a).take (b - a)) := ba_mk (Lib.extract_data w a b)

theorem spec_split_loop (c : UInt8) (s : ByteArray) (hs : s.size ≤ 1048576) : ∀ (d i f : Nat) (out : List ByteArray), i + d = s.size → f ≤ i → out.length ≤ i → ∀ k, d + 1 < k →
    spec_l01Split.l0 k s (c.toNat : Int) out (f : Int) (i : Int) = some (out ++ (cutAt c ((s.data.toList.drop f).take (i - f)) (s.data.toList.drop i)).map mkB) := by
  intro d
  induction d with
  | zero =>
    intro i f out hi hf ho k hk
    obtain ⟨k, rfl⟩ : ∃ m, k = m + 2 := ⟨k - 2, by omega⟩
    have hl := data_length s
    rw [spec_l01Split.l0, if_pos (by omega), if_pos (by omega), if_pos (by omega), if_pos (by omega), if_pos (by omega), wid ((i : Int) + 1) (by omega) (by omega), spec_l01Split.l0, if_neg (by omega), ba_extract]
    rw [show ((i : Int)).toNat = i by omega, show ((f : Int)).toNat = f by omega, List.drop_eq_nil_of_le (show s.data.toList.length ≤ i by omega)]
    simp [cutAt]
  | succ d ih =>
    intro i f out hi hf ho k hk
    obtain ⟨k, rfl⟩ : ∃ m, k = m + 1 := ⟨k - 1, by omega⟩
    have hl := data_length s
    have hlt : i < s.data.toList.length := by omega
    have hb := bt_nat s i (by omega)
    rw [spec_l01Split.l0, if_pos (by omega), if_neg (by omega), if_pos (by omega), if_pos (by omega), hb]
    rw [List.drop_eq_getElem_cons hlt]
    by_cases h : s.data.toList[i] = c
    · rw [if_pos (by rw [h]), if_pos (by omega), if_pos (by omega), if_pos (by omega), wid ((i : Int) + 1) (by omega) (by omega), ba_extract, show ((i : Int)).toNat = i by omega, show ((f : Int)).toNat = f by omega]
      have := ih (i + 1) (i + 1) (out ++ [mkB ((s.data.toList.drop f).take (i - f))]) (by omega) (by omega) (by simp; omega) k (by omega)
      rw [show ((i + 1 : Nat) : Int) = (i : Int) + 1 by omega] at this
      rw [this, cutAt, if_pos h]
      simp
    · rw [if_neg (by intro e; exact h (UInt8.toNat_inj.1 (by omega))), wid ((i : Int) + 1) (by omega) (by omega)]
      have := ih (i + 1) f out (by omega) (by omega) (by omega) k (by omega)
      rw [show ((i + 1 : Nat) : Int) = (i : Int) + 1 by omega] at this
      rw [this, cutAt, if_neg h]
      have e : (s.data.toList.drop f).take (i + 1 - f) = (s.data.toList.drop f).take (i - f) ++ [s.data.toList[i]] := by
        rw [show i + 1 - f = (i - f) + 1 by omega, List.take_add_one, List.getElem?_drop, show f + (i - f) = i by omega, List.getElem?_eq_getElem hlt]; rfl
      rw [e]

theorem spec_split (c : UInt8) (s : ByteArray) (hs : s.size ≤ 1048576) (k : Nat) (hk : 1048600 < k) : spec_l01Split.f k s (c.toNat : Int) = some ((cutAt c [] s.data.toList).map mkB) := by
  have := spec_split_loop c s hs s.size 0 0 [] (by omega) (by omega) (by simp) k (by omega)
  unfold spec_l01Split.f
  simpa using this
/-! numbers -/

theorem rdOf_nat {α : Type} (z : α) (l : List α) (i : Nat) (h : i < l.length) : rdOf z l (i : Int) = l[i] := by simp [rdOf, h]

theorem spec_numbers_total (W : List ByteArray) (hm : W.length ≤ 1048577) : ∀ (d i : Nat) (acc : List Int), i + d = W.length → acc.length ≤ i → ∀ k, d + 200 < k →
    ∃ r, spec_l01Numbers.l0 k W acc (i : Int) = some r ∧ (r.2 = true → ∃ ys, r.1 = acc ++ ys ∧ W.drop i = ys.map encI) := by
  intro d
  induction d with
  | zero =>
    intro i acc hi ha k hk
    obtain ⟨k, rfl⟩ : ∃ m, k = m + 1 := ⟨k - 1, by omega⟩
    rw [spec_l01Numbers.l0, if_neg (by omega)]
    exact ⟨_, rfl, fun _ => ⟨[], by simp, by rw [List.drop_eq_nil_of_le (by omega)]; rfl⟩⟩
  | succ d ih =>
    intro i acc hi ha k hk
    obtain ⟨k, rfl⟩ : ∃ m, k = m + 111 := ⟨k - 111, by omega⟩
    have hlt : i < W.length := by omega
    rw [spec_l01Numbers.l0, if_pos (by omega), if_pos (by omega), rdOf_nat _ W i hlt]
    obtain ⟨⟨v, ok⟩, hv, hq⟩ := spec_signed_total W[i] k
    rw [hv]
    simp only [Option.bind_some]
    by_cases c : ok = true
    · rw [if_pos c, if_pos (by omega), wid ((i : Int) + 1) (by omega) (by omega), show (i : Int) + 1 = ((i + 1 : Nat) : Int) by omega]
      obtain ⟨r, hr, ht⟩ := ih (i + 1) (acc ++ [v]) (by omega) (by simp; omega) (k + 110) (by omega)
      refine ⟨r, hr, fun h => ?_⟩
      obtain ⟨ys, e1, e2⟩ := ht h
      refine ⟨v :: ys, by rw [e1]; simp, ?_⟩
      rw [List.drop_eq_getElem_cons hlt, e2, (hq c).1]; rfl
    · rw [if_neg c]
      exact ⟨_, rfl, fun h => absurd h (by simp)⟩

theorem spec_numbers_of (W : List ByteArray) (hm : W.length ≤ 1048577) : ∀ (d i : Nat) (acc ys : List Int), i + d = W.length → acc.length ≤ i → W.drop i = ys.map encI → (∀ x ∈ ys, -1000000000000 ≤ x ∧ x ≤ 1000000000000) → ∀ k, d + 200 < k →
    spec_l01Numbers.l0 k W acc (i : Int) = some (acc ++ ys, true) := by
  intro d
  induction d with
  | zero =>
    intro i acc ys hi ha hy hv k hk
    obtain ⟨k, rfl⟩ : ∃ m, k = m + 1 := ⟨k - 1, by omega⟩
    rw [List.drop_eq_nil_of_le (by omega)] at hy
    have : ys = [] := by cases ys with
      | nil => rfl
      | cons _ _ => simp at hy
    rw [spec_l01Numbers.l0, if_neg (by omega), this, List.append_nil]
  | succ d ih =>
    intro i acc ys hi ha hy hv k hk
    obtain ⟨k, rfl⟩ : ∃ m, k = m + 111 := ⟨k - 111, by omega⟩
    have hlt : i < W.length := by omega
    rw [List.drop_eq_getElem_cons hlt] at hy
    cases ys with
    | nil => simp at hy; omega
    | cons y ys =>
      rw [List.map_cons, List.cons.injEq] at hy
      have hb := hv y (by simp)
      rw [spec_l01Numbers.l0, if_pos (by omega), if_pos (by omega), rdOf_nat _ W i hlt, hy.1, spec_signed_of y (by omega) (by omega) k]
      simp only [Option.bind_some, if_true]
      rw [if_pos (by omega), wid ((i : Int) + 1) (by omega) (by omega), show (i : Int) + 1 = ((i + 1 : Nat) : Int) by omega, ih (i + 1) (acc ++ [y]) ys (by omega) (by simp; omega) hy.2 (fun x hx => hv x (by simp [hx])) (k + 110) (by omega)]
      simp

theorem impl_numbers_total (W : List ByteArray) (hm : W.length ≤ 1048577) : ∀ (d i : Nat) (acc : List Int), i + d = W.length → acc.length ≤ i → ∀ k, d < k →
    ∃ r, impl_readNumbers.l0 k acc W (W.length : Int) (i : Int) = some r ∧ (r.2 = true → ∃ ys, r.1 = acc ++ ys ∧ W.drop i = ys.map encI) := by
  intro d
  induction d with
  | zero =>
    intro i acc hi ha k hk
    obtain ⟨k, rfl⟩ : ∃ m, k = m + 1 := ⟨k - 1, by omega⟩
    rw [impl_readNumbers.l0, if_neg (by omega)]
    exact ⟨_, rfl, fun _ => ⟨[], by simp, by rw [List.drop_eq_nil_of_le (by omega)]; rfl⟩⟩
  | succ d ih =>
    intro i acc hi ha k hk
    obtain ⟨k, rfl⟩ : ∃ m, k = m + 1 := ⟨k - 1, by omega⟩
    have hlt : i < W.length := by omega
    rw [impl_readNumbers.l0, if_pos (by omega), if_pos (by omega), if_pos (by omega), rdOf_nat _ W i hlt]
    obtain ⟨⟨v, ok⟩, hv, hq⟩ := readDec_total k W[i]
    rw [hv]
    simp only [Option.bind_some]
    by_cases c : ok = true
    · rw [if_pos c, if_pos (by omega), wid ((i : Int) + 1) (by omega) (by omega), show (i : Int) + 1 = ((i + 1 : Nat) : Int) by omega]
      obtain ⟨r, hr, ht⟩ := ih (i + 1) (acc ++ [v]) (by omega) (by simp; omega) k (by omega)
      refine ⟨r, hr, fun h => ?_⟩
      obtain ⟨ys, e1, e2⟩ := ht h
      refine ⟨v :: ys, by rw [e1]; simp, ?_⟩
      rw [List.drop_eq_getElem_cons hlt, e2, hq c]; rfl
    · rw [if_neg c]
      exact ⟨_, rfl, fun h => absurd h (by simp)⟩

theorem impl_numbers_of (W : List ByteArray) (hm : W.length ≤ 1048577) : ∀ (d i : Nat) (acc ys : List Int), i + d = W.length → acc.length ≤ i → W.drop i = ys.map encI → (∀ x ∈ ys, -1000000000000 ≤ x ∧ x ≤ 1000000000000) → ∀ k, d < k →
    impl_readNumbers.l0 k acc W (W.length : Int) (i : Int) = some (acc ++ ys, true) := by
  intro d
  induction d with
  | zero =>
    intro i acc ys hi ha hy hv k hk
    obtain ⟨k, rfl⟩ : ∃ m, k = m + 1 := ⟨k - 1, by omega⟩
    rw [List.drop_eq_nil_of_le (by omega)] at hy
    have : ys = [] := by cases ys with
      | nil => rfl
      | cons _ _ => simp at hy
    rw [impl_readNumbers.l0, if_neg (by omega), this, List.append_nil]
  | succ d ih =>
    intro i acc ys hi ha hy hv k hk
    obtain ⟨k, rfl⟩ : ∃ m, k = m + 1 := ⟨k - 1, by omega⟩
    have hlt : i < W.length := by omega
    rw [List.drop_eq_getElem_cons hlt] at hy
    cases ys with
    | nil => simp at hy; omega
    | cons y ys =>
      rw [List.map_cons, List.cons.injEq] at hy
      have hb := hv y (by simp)
      rw [impl_readNumbers.l0, if_pos (by omega), if_pos (by omega), if_pos (by omega), rdOf_nat _ W i hlt, hy.1, readDec_of k y (by omega) (by omega)]
      simp only [Option.bind_some, if_true]
      rw [if_pos (by omega), wid ((i : Int) + 1) (by omega) (by omega), show (i : Int) + 1 = ((i + 1 : Nat) : Int) by omega, ih (i + 1) (acc ++ [y]) ys (by omega) (by simp; omega) hy.2 (fun x hx => hv x (by simp [hx])) k (by omega)]
      simp
/-! the whole -/

def goodL (W : List ByteArray) (xs : List Int) : Prop := W = xs.map encI ∧ allV xs = true ∧ (xs.length : Int) ≤ 100

/-- What both readings answer. -/
def readAns (s : ByteArray) (r : List Int × Int) : Prop :=
  (s.toList = [45] ∧ r = ([], 0)) ∨ (s.toList ≠ [45] ∧ ((∃ xs, goodL ((cutAt 44 [] s.data.toList).map mkB) xs ∧ r = (xs, 0)) ∨ ((¬ ∃ xs, goodL ((cutAt 44 [] s.data.toList).map mkB) xs) ∧ r = ([], 6))))

theorem words_len (s : ByteArray) (hs : s.size ≤ 1048576) : ((cutAt 44 [] s.data.toList).map mkB).length ≤ 1048577 := by
  have := cutAt_len 44 s.data.toList []
  rw [data_length] at this
  rw [List.length_map]; omega

theorem spec_ReadList_ans (s : ByteArray) (hs : s.size ≤ 1048576) (k : Nat) (hk : 1048900 < k) : ∃ r, spec_ReadList.f k s = some r ∧ readAns s r := by
  unfold spec_ReadList.f
  by_cases c : s.toList = [45]
  · exact ⟨_, by rw [if_pos c], .inl ⟨c, rfl⟩⟩
  · rw [if_neg c]
    have hsp := spec_split 44 s hs k (by omega)
    rw [show (((44 : UInt8)).toNat : Int) = 44 from rfl] at hsp
    rw [hsp]
    simp only [Option.bind_some]
    have hW := words_len s hs
    unfold readAns
    generalize (cutAt 44 [] s.data.toList).map mkB = W at hW
    unfold spec_l01Numbers.f
    by_cases hg : ∃ xs, goodL W xs
    · obtain ⟨xs, g1, g2, g3⟩ := hg
      have hn := spec_numbers_of W hW W.length 0 [] xs (by omega) (by simp) (by simpa using g1) (allV_mem g2) k (by omega)
      rw [show ((0 : Nat) : Int) = 0 from rfl] at hn
      rw [hn]
      simp only [Option.bind_some, if_true, List.nil_append]
      have hl := spec_list_loop xs (by omega) xs.length 0 (by omega) k (by omega)
      rw [List.drop_zero, show ((0 : Nat) : Int) = 0 from rfl] at hl
      unfold spec_l01List.f
      rw [hl, g2, decide_eq_true g3]
      exact ⟨_, rfl, .inr ⟨c, .inl ⟨xs, ⟨g1, g2, g3⟩, rfl⟩⟩⟩
    · refine ⟨([], 6), ?_, .inr ⟨c, .inr ⟨hg, rfl⟩⟩⟩
      obtain ⟨⟨ys, ok⟩, hn, ht⟩ := spec_numbers_total W hW W.length 0 [] (by omega) (by simp) k (by omega)
      rw [show ((0 : Nat) : Int) = 0 from rfl] at hn
      rw [hn]
      simp only [Option.bind_some]
      by_cases h : ok = true
      · rw [if_pos h]
        obtain ⟨zs, e1, e2⟩ := ht h
        rw [List.drop_zero] at e2
        simp only [List.nil_append] at e1
        subst e1
        have hlen : ys.length = W.length := by rw [e2]; simp
        have hl := spec_list_loop ys (by omega) ys.length 0 (by omega) k (by omega)
        rw [List.drop_zero, show ((0 : Nat) : Int) = 0 from rfl] at hl
        unfold spec_l01List.f
        rw [hl]
        simp only [Option.bind_some]
        rw [if_neg (by intro e; rw [Bool.and_eq_true, decide_eq_true_eq] at e; exact hg ⟨ys, e2, e.1, e.2⟩)]
      · rw [if_neg h]

theorem impl_ReadList_ans (s : ByteArray) (hs : s.size ≤ 1048576) (k : Nat) (hk : 1048900 < k) : ∃ r, impl_ReadList.f k s = some r ∧ readAns s r := by
  unfold impl_ReadList.f
  by_cases c : s.toList = [45]
  · exact ⟨_, by rw [if_pos c], .inl ⟨c, rfl⟩⟩
  · rw [if_neg c]
    unfold impl_readNumbers.f
    rw [impl_split k s hs 44]
    simp only [Option.bind_some]
    have hW := words_len s hs
    unfold readAns
    generalize (cutAt 44 [] s.data.toList).map mkB = W at hW
    by_cases hg : ∃ xs, goodL W xs
    · obtain ⟨xs, g1, g2, g3⟩ := hg
      have hn := impl_numbers_of W hW W.length 0 [] xs (by omega) (by simp) (by simpa using g1) (allV_mem g2) k (by omega)
      rw [show ((0 : Nat) : Int) = 0 from rfl] at hn
      rw [hn]
      simp only [Option.bind_some, if_true, List.nil_append]
      have hl := impl_list_loop xs (by omega) xs.length 0 (by omega) k (by omega)
      rw [List.drop_zero, show ((0 : Nat) : Int) = 0 from rfl] at hl
      unfold impl_areValues.f
      rw [hl, g2, if_neg (by omega)]
      exact ⟨_, rfl, .inr ⟨c, .inl ⟨xs, ⟨g1, g2, g3⟩, rfl⟩⟩⟩
    · refine ⟨([], 6), ?_, .inr ⟨c, .inr ⟨hg, rfl⟩⟩⟩
      obtain ⟨⟨ys, ok⟩, hn, ht⟩ := impl_numbers_total W hW W.length 0 [] (by omega) (by simp) k (by omega)
      rw [show ((0 : Nat) : Int) = 0 from rfl] at hn
      rw [hn]
      simp only [Option.bind_some]
      by_cases h : ok = true
      · rw [if_pos h]
        obtain ⟨zs, e1, e2⟩ := ht h
        rw [List.drop_zero] at e2
        simp only [List.nil_append] at e1
        subst e1
        have hlen : ys.length = W.length := by rw [e2]; simp
        by_cases c1 : (ys.length : Int) > 100
        · rw [if_pos c1]
        · rw [if_neg c1]
          have hl := impl_list_loop ys (by omega) ys.length 0 (by omega) k (by omega)
          rw [List.drop_zero, show ((0 : Nat) : Int) = 0 from rfl] at hl
          unfold impl_areValues.f
          rw [hl]
          simp only [Option.bind_some]
          rw [if_neg (fun e => hg ⟨ys, e2, e, by omega⟩)]
      · rw [if_neg h]

theorem itoa_inj {x y : Int} (h : Lib.itoa x = Lib.itoa y) (hx : -1000000000000 ≤ x ∧ x ≤ 1000000000000) (hy : -1000000000000 ≤ y ∧ y ≤ 1000000000000) : x = y := by
  have h1 := parse_itoa x (by omega) (by omega)
  have h2 := parse_itoa y (by omega) (by omega)
  rw [h, h2] at h1
  injection h1 with h1
  exact h1.symm

theorem encI_map_inj : ∀ {xs ys : List Int}, xs.map encI = ys.map encI → (∀ x ∈ xs, -1000000000000 ≤ x ∧ x ≤ 1000000000000) → (∀ x ∈ ys, -1000000000000 ≤ x ∧ x ≤ 1000000000000) → xs = ys
  | [], [], _, _, _ => rfl
  | [], _ :: _, h, _, _ => by simp at h
  | _ :: _, [], h, _, _ => by simp at h
  | x :: xs, y :: ys, h, hx, hy => by
    rw [List.map_cons, List.map_cons, List.cons.injEq] at h
    have e : Lib.itoa x = Lib.itoa y := by
      have := congrArg (fun b : ByteArray => b.data.toList) h.1
      simpa [encI] using this
    rw [itoa_inj e (hx x (by simp)) (hy y (by simp)), encI_map_inj h.2 (fun z hz => hx z (by simp [hz])) (fun z hz => hy z (by simp [hz]))]

theorem readAns_one {s : ByteArray} {r q : List Int × Int} (h1 : readAns s r) (h2 : readAns s q) : r = q ∧ r.1.length ≤ 100 := by
  rcases h1 with ⟨a, b⟩ | ⟨a, b⟩
  · rcases h2 with ⟨c, d⟩ | ⟨c, d⟩
    · subst b; subst d; exact ⟨rfl, by simp⟩
    · exact absurd a c
  · rcases h2 with ⟨c, d⟩ | ⟨c, d⟩
    · exact absurd c a
    · rcases b with ⟨xs, g, e⟩ | ⟨g, e⟩
      · rcases d with ⟨ys, g2, e2⟩ | ⟨g2, e2⟩
        · subst e; subst e2
          have := encI_map_inj (g.1.symm.trans g2.1) (allV_mem g.2.1) (allV_mem g2.2.1)
          rw [this]
          refine ⟨rfl, ?_⟩
          have := g2.2.2
          simp only; omega
        · exact absurd ⟨xs, g⟩ g2
      · rcases d with ⟨ys, g2, e2⟩ | ⟨g2, e2⟩
        · exact absurd ⟨ys, g2⟩ g
        · subst e; subst e2; exact ⟨rfl, by simp⟩
/-! marks -/

theorem cutAt_pre (c : UInt8) : ∀ (l cur r : List UInt8), (∀ x ∈ l, x ≠ c) → cutAt c cur (l ++ r) = cutAt c (cur ++ l) r
  | [], cur, r, _ => by simp
  | b :: l, cur, r, h => by
    rw [List.cons_append, cutAt, if_neg (h b (by simp)), cutAt_pre c l (cur ++ [b]) r (fun x hx => h x (by simp [hx]))]
    simp

theorem damage_eq {l : List Int} {t s : Int} (h : src l t s) (T : ByteArray) (hT : T.size ≤ 100000) : ∃ U t' s', spec_l01Damage.f l t s T = some (U, t', s') ∧ src l t' s' ∧ U.size ≤ T.size + 1 := by
  obtain ⟨v1, t1, s1, e1, h1, b1, c1⟩ := next_eq h ((T.size : Int) + 1) (by omega)
  obtain ⟨v2, t2, s2, e2, h2, b2, c2⟩ := next_eq h1 8 (by omega)
  obtain ⟨v3, t3, s3, e3, h3, b3, c3⟩ := next_eq h2 8 (by omega)
  have hz : ∀ a b : Nat, (T.extract a b).size ≤ T.size := fun a b => by
    rw [← data_length, ← data_length, Lib.extract_data, List.length_take, List.length_drop]; omega
  have hv : v1 ≤ (T.size : Int) := by omega
  unfold spec_l01Damage.f
  rw [wid ((T.size : Int) + 1) (by omega) (by omega), e1]
  simp only [Option.bind_some]
  rw [e2]
  simp only [Option.bind_some]
  by_cases d0 : v2 = 0
  · rw [if_pos d0, if_pos b1, if_pos hv]
    exact ⟨_, _, _, rfl, h2, by have := hz 0 (v1 : Int).toNat; omega⟩
  · rw [if_neg d0]
    by_cases d1 : v2 = 1
    · rw [if_pos d1, if_pos b1, if_pos hv, e3]
      simp only [Option.bind_some]
      have hw : ∃ w : ByteArray, rdOf ByteArray.empty ([(⟨#[48]⟩ : ByteArray), (⟨#[35]⟩ : ByteArray), (⟨#[46]⟩ : ByteArray), (⟨#[47]⟩ : ByteArray), (⟨#[32]⟩ : ByteArray), (⟨#[97]⟩ : ByteArray), (⟨#[45]⟩ : ByteArray), (⟨#[10]⟩ : ByteArray)] : List ByteArray) v3 = w ∧ w.size = 1 := by
        refine ⟨_, rfl, ?_⟩
        have hc : v3 = 0 ∨ v3 = 1 ∨ v3 = 2 ∨ v3 = 3 ∨ v3 = 4 ∨ v3 = 5 ∨ v3 = 6 ∨ v3 = 7 := by omega
        rcases hc with rfl | rfl | rfl | rfl | rfl | rfl | rfl | rfl <;> rfl
      obtain ⟨w, hw, hw1⟩ := hw
      have g1 : (T.extract 0 (v1 : Int).toNat).size + (T.extract (v1 : Int).toNat T.size).size = T.size := by
        rw [← data_length, ← data_length, Lib.extract_data, Lib.extract_data, List.length_take, List.length_drop, List.length_take, List.length_drop, data_length]; omega
      rw [if_pos b3, if_pos (by simp; omega), hw, if_pos (by omega), if_pos (by rw [ByteArray.size_append]; omega)]
      exact ⟨_, _, _, rfl, h3, by rw [ByteArray.size_append, ByteArray.size_append]; omega⟩
    · rw [if_neg d1]
      by_cases d2 : v2 = 2
      · rw [if_pos d2]
        by_cases d3 : v1 < (T.size : Int)
        · have g1 : (T.extract 0 (v1 : Int).toNat).size + (T.extract ((v1 + 1 : Int)).toNat T.size).size ≤ T.size := by
            rw [← data_length, ← data_length, Lib.extract_data, Lib.extract_data, List.length_take, List.length_drop, List.length_take, List.length_drop, data_length]; omega
          rw [if_pos d3, if_pos b1, if_pos hv, wid (v1 + 1) (by omega) (by omega), if_pos (by omega), if_pos (by omega), if_pos (by omega)]
          exact ⟨_, _, _, rfl, h2, by rw [ByteArray.size_append]; omega⟩
        · rw [if_neg d3]
          exact ⟨_, _, _, rfl, h2, by omega⟩
      · rw [if_neg d2]
        exact ⟨_, _, _, rfl, h2, by omega⟩

theorem join_cutAt (c : UInt8) : ∀ (l cur : List UInt8), ∃ x ps, cutAt c cur l = x :: ps ∧ x ++ Lib.joinTail [c] ps = cur ++ l
  | [], cur => ⟨cur, [], rfl, by simp [Lib.joinTail]⟩
  | b :: r, cur => by
    by_cases h : b = c
    · subst h
      obtain ⟨x, ps, e1, e2⟩ := join_cutAt b r []
      refine ⟨cur, x :: ps, by rw [cutAt, if_pos rfl, e1], ?_⟩
      rw [List.nil_append] at e2
      rw [← e2]
      simp [Lib.joinTail]
    · obtain ⟨x, ps, e1, e2⟩ := join_cutAt c r (cur ++ [b])
      refine ⟨x, ps, by rw [cutAt, if_neg h, e1], ?_⟩
      rw [e2]; simp

theorem cutAt_join (c : UInt8) : ∀ (ps : List (List UInt8)) (x cur : List UInt8), (∀ y ∈ x :: ps, ∀ b ∈ y, b ≠ c) → cutAt c cur (x ++ Lib.joinTail [c] ps) = (cur ++ x) :: ps
  | [], x, cur, h => by
    rw [cutAt_pre c x cur _ (h x (by simp))]
    simp [Lib.joinTail, cutAt]
  | p :: ps, x, cur, h => by
    rw [cutAt_pre c x cur _ (h x (by simp))]
    have e : Lib.joinTail [c] (p :: ps) = c :: (p ++ Lib.joinTail [c] ps) := by simp [Lib.joinTail]
    rw [e, cutAt, if_pos rfl, cutAt_join c ps p [] (fun y hy => h y (by simp at hy ⊢; right; exact hy)), List.nil_append]

theorem itoa_no44 (x : Int) (h0 : -1000000000000 ≤ x) (h1 : x ≤ 1000000000000) : ∀ b ∈ Lib.itoa x, b ≠ 44 := by
  have hd := (digs_isD 17 x.natAbs (by omega)).1
  have h44 : (44 : UInt8).toNat = 44 := rfl
  intro b hb e
  subst e
  unfold Lib.itoa at hb
  by_cases c : x < 0
  · rw [if_pos c, List.mem_cons] at hb
    rcases hb with hb | hb
    · exact absurd hb (by decide)
    · have := hd _ hb; unfold isD at this; omega
  · rw [if_neg c, show x.toNat = x.natAbs by omega] at hb
    have := hd _ hb; unfold isD at this; omega

theorem cut_join_list (l : List Int) (h0 : 0 < l.length) (hv : allV l = true) : (cutAt 44 [] (Lib.join (l.map Lib.itoa) [44])).map mkB = l.map encI := by
  obtain ⟨x, r, rfl⟩ : ∃ x r, l = x :: r := by cases l with
    | nil => simp at h0
    | cons x r => exact ⟨x, r, rfl⟩
  have hm := allV_mem hv
  rw [List.map_cons, Lib.join_cons, cutAt_join 44 _ _ [] (by
    intro y hy
    rw [← List.map_cons, List.mem_map] at hy
    obtain ⟨z, hz, rfl⟩ := hy
    have := hm z hz
    exact itoa_no44 z this.1 this.2), List.nil_append, List.map_cons, List.map_map]
  rfl

theorem good_join {s : ByteArray} {xs : List Int} (h : goodL ((cutAt 44 [] s.data.toList).map mkB) xs) : listAns xs = (s, 0) := by
  obtain ⟨h1, h2, h3⟩ := h
  obtain ⟨x, ps, e1, e2⟩ := join_cutAt 44 s.data.toList []
  rw [e1] at h1
  have hne : ¬ (xs.length : Int) = 0 := by
    intro e
    have : xs = [] := List.length_eq_zero_iff.1 (by omega)
    rw [this] at h1; simp at h1
  unfold listAns
  rw [if_pos ⟨h2, h3⟩, if_neg hne]
  have hj : Lib.join (xs.map Lib.itoa) [44] = s.data.toList := by
    have : xs.map Lib.itoa = x :: ps := by
      have e := congrArg (fun l : List ByteArray => l.map (·.data.toList)) h1
      simp only [List.map_map] at e
      have f1 : ∀ l : List (List UInt8), l.map ((fun b : ByteArray => b.data.toList) ∘ mkB) = l := fun l => by
        conv => rhs; rw [← List.map_id l]
        exact List.map_congr_left fun y _ => data_mkB y
      rw [f1] at e
      rw [e]
      exact List.map_congr_left fun y _ => by simp [encI]
    rw [this, Lib.join_cons, e2]; rfl
  rw [hj]

theorem list_back (l : List Int) (hv : allV l = true) (hm : (l.length : Int) ≤ 100) : readAns (listAns l).1 (l, 0) := by
  unfold listAns
  rw [if_pos ⟨hv, hm⟩]
  by_cases c0 : (l.length : Int) = 0
  · have : l = [] := List.length_eq_zero_iff.1 (by omega)
    subst this
    exact .inl ⟨by rw [ByteArray.toList_eq]; rfl, rfl⟩
  · rw [if_neg c0]
    have hcut := cut_join_list l (by omega) hv
    have hd : (⟨(Lib.join (l.map Lib.itoa) [44]).toArray⟩ : ByteArray).data.toList = Lib.join (l.map Lib.itoa) [44] := by simp
    refine .inr ⟨?_, .inl ⟨l, ⟨by show _ = _; rw [hd, hcut], hv, hm⟩, rfl⟩⟩
    intro e
    rw [ByteArray.toList_eq, hd] at e
    rw [e] at hcut
    have e3 : cutAt 44 [] [(45 : UInt8)] = [[45]] := by simp [cutAt]
    rw [e3] at hcut
    obtain ⟨x, rfl⟩ : ∃ x, l = [x] := by
      have hl : l.length = 1 := by
        have := congrArg List.length hcut
        simpa using this.symm
      exact List.length_eq_one_iff.1 hl
    simp only [List.map_cons, List.map_nil, List.cons.injEq, and_true] at hcut
    have hb := allV_mem hv x (by simp)
    have hp := parse_itoa x (by omega) (by omega)
    have hi : Lib.itoa x = [45] := by
      have := congrArg (fun b : ByteArray => b.data.toList) hcut
      simpa [mkB, encI] using this.symm
    rw [hi] at hp
    have h45 : (match Lib.parseIntB 64 [45] with | .ok _ => true | _ => false) = false := rfl
    rw [hp] at h45
    exact absurd h45 (by simp)

theorem listAns_code (l : List Int) (h : (listAns l).2 = 0) : allV l = true ∧ (l.length : Int) ≤ 100 := by
  unfold listAns at h
  by_cases c : allV l = true ∧ (l.length : Int) ≤ 100
  · exact c
  · rw [if_neg c] at h; simp at h

theorem join_size : ∀ l : List (List UInt8), (∀ x ∈ l, x.length ≤ 21) → (Lib.join l [44]).length ≤ 22 * l.length
  | [], _ => by simp [Lib.join, List.intercalate]
  | [x], h => by have := h x (by simp); simp [Lib.join, List.intercalate]; omega
  | x :: y :: l, h => by
    have ih := join_size (y :: l) (fun z hz => h z (by simp at hz ⊢; right; exact hz))
    have := h x (by simp)
    simp [Lib.join, List.intercalate] at ih ⊢
    omega

theorem listAns_size (l : List Int) : (listAns l).1.size ≤ 2300 := by
  unfold listAns
  by_cases c : allV l = true ∧ (l.length : Int) ≤ 100
  · rw [if_pos c]
    by_cases c0 : (l.length : Int) = 0
    · rw [if_pos c0]; have : (⟨#[45]⟩ : ByteArray).size = 1 := rfl; show (⟨#[45]⟩ : ByteArray).size ≤ 2300; omega
    · rw [if_neg c0]
      have := join_size (l.map Lib.itoa) (by
        intro y hy
        rw [List.mem_map] at hy
        obtain ⟨x, hx, rfl⟩ := hy
        have hb := allV_mem c.1 x hx
        have := itoa_len19 x (by omega) (by omega)
        omega)
      rw [List.length_map] at this
      show (⟨(Lib.join (l.map Lib.itoa) [44]).toArray⟩ : ByteArray).size ≤ 2300
      rw [ba_size]; omega
  · rw [if_neg c]; have : (⟨#[]⟩ : ByteArray).size = 0 := rfl; show (⟨#[]⟩ : ByteArray).size ≤ 2300; omega

theorem drawList_loop {l : List Int} : ∀ (d : Nat) (acc : List Int) (n t s : Int), src l t s → n = (d : Int) → acc.length + d ≤ 10 → ∃ L, (∀ k, d + 1 < k → spec_DrawListText.l0 k acc n l t s = some L) ∧ L.length ≤ 101 := by
  intro d
  induction d with
  | zero =>
    intro acc n t s h hn ha
    obtain ⟨v1, t1, s1, e1, h1, b1, c1⟩ := next_eq h 40 (by omega)
    obtain ⟨v2, t2, s2, e2, h2, b2, c2⟩ := next_eq h1 2 (by omega)
    by_cases c : v1 = 0
    · refine ⟨List.replicate (100 + v2).toNat 0, fun k hk => ?_, by rw [List.length_replicate]; omega⟩
      obtain ⟨k, rfl⟩ : ∃ m, k = m + 1 := ⟨k - 1, by omega⟩
      rw [spec_DrawListText.l0, if_neg (by omega), e1]
      simp only [Option.bind_some]
      rw [if_pos c, e2]
      simp only [Option.bind_some]
      rw [wid (100 + v2) (by omega) (by omega), if_pos (by omega), if_pos (by omega)]
    · refine ⟨acc, fun k hk => ?_, by omega⟩
      obtain ⟨k, rfl⟩ : ∃ m, k = m + 1 := ⟨k - 1, by omega⟩
      rw [spec_DrawListText.l0, if_neg (by omega), e1]
      simp only [Option.bind_some]
      rw [if_neg c]
  | succ d ih =>
    intro acc n t s h hn ha
    obtain ⟨v1, t1, s1, e1, h1, _⟩ := drawValue_eq h
    obtain ⟨L, hL, hz⟩ := ih (acc ++ [v1]) (n - 1) t1 s1 h1 (by omega) (by rw [List.length_append]; simp; omega)
    refine ⟨L, fun k hk => ?_, hz⟩
    obtain ⟨k, rfl⟩ : ∃ m, k = m + 1 := ⟨k - 1, by omega⟩
    rw [spec_DrawListText.l0, if_pos (by omega), e1]
    simp only [Option.bind_some]
    rw [if_pos (by omega), wid (n - 1) (by omega) (by omega)]
    exact hL k (by omega)

theorem drawListText_eq (l : List Int) (hl : l.length ≤ 4096) (hb : ∀ x ∈ l, 0 ≤ x ∧ x ≤ 255) : ∃ L, (∀ k, 64 < k → spec_DrawListText.f k l = some L) ∧ L.length ≤ 101 := by
  obtain ⟨s, hs, hf⟩ := from_eq l hl hb
  obtain ⟨v1, t1, s1, e1, h1, b1, c1⟩ := next_eq hs 6 (by omega)
  obtain ⟨L, hL, hz⟩ := drawList_loop v1.toNat [] v1 t1 s1 h1 (by omega) (by simp; omega)
  refine ⟨L, fun k hk => ?_, hz⟩
  unfold spec_DrawListText.f
  rw [hf k hk]; simp only [Option.bind_some]
  rw [e1]; simp only [Option.bind_some]
  exact hL k (by omega)

theorem drawReadList_eq (l : List Int) (hl : l.length ≤ 4096) (hb : ∀ x ∈ l, 0 ≤ x ∧ x ≤ 255) : ∃ T, (∀ k, 1048900 < k → spec_DrawReadList.f k l = some T) ∧ T.size ≤ 3000 := by
  obtain ⟨s, hs, hf⟩ := from_eq l hl hb
  obtain ⟨L, hL, hz⟩ := drawListText_eq l hl hb
  obtain ⟨v1, t1, s1, e1, h1, b1, c1⟩ := next_eq hs 3 (by omega)
  have hsz := listAns_size L
  obtain ⟨U, t2, s2, e2, h2, hU⟩ := damage_eq h1 (listAns L).1 (by omega)
  by_cases c : v1 = 0
  · refine ⟨U, fun k hk => ?_, by omega⟩
    unfold spec_DrawReadList.f
    rw [hf k (by omega)]; simp only [Option.bind_some]
    rw [hL k (by omega)]; simp only [Option.bind_some]
    rw [spec_ListText_ans L (by omega) k (by omega)]; simp only [Option.bind_some]
    rw [e1]; simp only [Option.bind_some]
    rw [if_pos c, e2]; rfl
  · refine ⟨(listAns L).1, fun k hk => ?_, by omega⟩
    unfold spec_DrawReadList.f
    rw [hf k (by omega)]; simp only [Option.bind_some]
    rw [hL k (by omega)]; simp only [Option.bind_some]
    rw [spec_ListText_ans L (by omega) k (by omega)]; simp only [Option.bind_some]
    rw [e1]; simp only [Option.bind_some]
    rw [if_neg c]

theorem like_loop (l : List Int) (hm : l.length ≤ 35184372088832) : ∀ (d i : Nat), i + d = l.length → ∀ k, d < k → laws_likeInts.l0 k l l (i : Int) = some true := by
  intro d
  induction d with
  | zero =>
    intro i hi k hk
    obtain ⟨k, rfl⟩ : ∃ m, k = m + 1 := ⟨k - 1, by omega⟩
    rw [laws_likeInts.l0, if_neg (by omega)]
  | succ d ih =>
    intro i hi k hk
    obtain ⟨k, rfl⟩ : ∃ m, k = m + 1 := ⟨k - 1, by omega⟩
    rw [laws_likeInts.l0, if_pos (by omega), if_pos (by omega), if_pos (by omega), if_pos rfl, wid ((i : Int) + 1) (by omega) (by omega), show (i : Int) + 1 = ((i + 1 : Nat) : Int) by omega, ih (i + 1) (by omega) k (by omega)]

theorem like_same (l : List Int) (hm : l.length ≤ 1048576) (k : Nat) (hk : 1048800 < k) : laws_likeInts.f k l l = some true := by
  have := like_loop l (by omega) l.length 0 (by omega) k (by omega)
  unfold laws_likeInts.f
  rw [if_pos rfl]
  simpa using this

theorem lists_j1 (k : Nat) (hk : 1049000 < k) (l : List Int) (hl : l.length ≤ 101) : laws_FnLists.j1 (k + 1) l (listAns l).1 (listAns l).2 = some true := by
  rw [laws_FnLists.j1]
  by_cases c : (listAns l).2 = 0
  · obtain ⟨hv, hm⟩ := listAns_code l c
    have hz := listAns_size l
    obtain ⟨r, e, hr⟩ := impl_ReadList_ans (listAns l).1 (by omega) k (by omega)
    obtain ⟨e2, _⟩ := readAns_one (list_back l hv hm) hr
    rw [if_pos c, e, ← e2]
    simp only [Option.bind_some, if_true]
    rw [like_same l (by omega) k (by omega)]
    rfl
  · rw [if_neg c]

theorem lists_j0 (k : Nat) (hk : 1049000 < k) (l : List Int) (hl : l.length ≤ 101) (s : ByteArray) (r : List Int × Int) (hr : readAns s r) : laws_FnLists.j0 (k + 2) l (listAns l).1 (listAns l).2 s r.1 r.2 false = some true := by
  rw [laws_FnLists.j0, if_neg (by simp)]
  have hlen := (readAns_one hr hr).2
  by_cases c : r.2 = 0
  · rw [if_pos c]
    have ha : (listAns r.1).2 = 0 ∧ (listAns r.1).1.toList = s.toList := by
      rcases hr with ⟨h1, rfl⟩ | ⟨h1, h2⟩
      · refine ⟨rfl, ?_⟩
        rw [h1, ByteArray.toList_eq]; rfl
      · rcases h2 with ⟨xs, g, rfl⟩ | ⟨g, rfl⟩
        · rw [show (xs, (0 : Int)).1 = xs from rfl, good_join g]
          exact ⟨rfl, rfl⟩
        · simp at c
    rw [impl_ListText_ans r.1 (by omega) (k + 1) (by omega)]
    simp only [Option.bind_some]
    rw [if_pos ha.1, if_pos ha.2]
    exact lists_j1 k hk l hl
  · rw [if_neg c]
    exact lists_j1 k hk l hl

theorem FnLists (l : List Int) (h : l.length ≤ maxLen) (h1 : l.length * 1 ≤ 140737488351232) (hw : ∀ x ∈ l, (Lit.int .u8 x).wf = true) : ∃ k, laws_FnLists.f k l = some true := by
  have hb := code_bytes hw
  refine ⟨1049200 + 2, ?_⟩
  generalize hk : 1049200 = k
  unfold laws_FnLists.f
  rw [big_eq]
  simp only [Option.bind_some]
  by_cases c : (l.length : Int) > 4096
  · rw [if_pos (decide_eq_true c)]
  · rw [if_neg (by simpa using c)]
    have hl : l.length ≤ 4096 := by omega
    obtain ⟨L, hL, hz⟩ := drawListText_eq l hl hb
    obtain ⟨s, hs, hsz⟩ := drawReadList_eq l hl hb
    obtain ⟨r, e1, r1⟩ := spec_ReadList_ans s (by omega) (k + 2) (by omega)
    obtain ⟨q, e2, r2⟩ := impl_ReadList_ans s (by omega) (k + 2) (by omega)
    obtain ⟨eq, hlen⟩ := readAns_one r1 r2
    subst eq
    rw [hL _ (by omega)]
    simp only [Option.bind_some]
    rw [impl_ListText_ans L (by omega) _ (by omega)]
    simp only [Option.bind_some]
    rw [spec_ListText_ans L (by omega) _ (by omega)]
    simp only [Option.bind_some]
    rw [hs _ (by omega)]
    simp only [Option.bind_some]
    rw [e2]
    simp only [Option.bind_some]
    rw [e1]
    simp only [Option.bind_some, if_true]
    rw [like_same r.1 (by omega) _ (by omega)]
    simp only [Option.bind_some, Bool.not_true]
    exact lists_j0 k (by omega) L hz s r r1

end Go.Proofs.YtndjeclnadpifaaDoor.Pure
