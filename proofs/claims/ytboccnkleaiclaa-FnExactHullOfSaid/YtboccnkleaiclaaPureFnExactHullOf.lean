/- Proved: for every list of intervals the law FnExactHullOf returns true. Conditions: the list's length is at most Go's greatest int. -/
import Derived.Test.YtboccnkleaiclaaQFnExactHullOfx3
namespace Go.Proofs.Ytboccnkleaiclaa.Pure
open Go.RowKit Go.Proofs.Ytboccnkleaiclaa.PFnExactHullOf Go.Proofs.YtboccnkleaiclaaW.PrintWords Go.Proofs.YtboccnkleaiclaaW.PrintLast Go.Proofs.YtboccnkleaiclaaW.PrintMore
set_option linter.unusedVariables false
set_option linter.unusedSimpArgs false

theorem wid (n : Int) (h0 : -9223372036854775808 ≤ n) (h1 : n ≤ 9223372036854775807) : wrap64 n = n := by unfold wrap64; omega

theorem impl_in_eq (n lo hi : Int) : impl_in.f n lo hi = some (decide (lo ≤ n ∧ n ≤ hi)) := by
  unfold impl_in.f; by_cases h : n ≥ lo
  · rw [if_pos h]; simp [show lo ≤ n from h]
  · rw [if_neg h]; simp [show ¬ lo ≤ n from h]

theorem spec_in_eq (n lo hi : Int) : spec_l01In.f n lo hi = some (decide (lo ≤ n ∧ n ≤ hi)) := by
  unfold spec_l01In.f; by_cases h : n ≥ lo
  · rw [if_pos h]; simp [show lo ≤ n from h]
  · rw [if_neg h]; simp [show ¬ lo ≤ n from h]

theorem impl_isValue_eq (n : Int) : impl_isValue.f n = some (decide (-1000000000000 ≤ n ∧ n ≤ 1000000000000)) := by
  unfold impl_isValue.f; rw [impl_in_eq]; rfl

theorem spec_is_eq (n : Int) : spec_l01Is.f n = some (decide (-1000000000000 ≤ n ∧ n ≤ 1000000000000)) := by
  unfold spec_l01Is.f; rw [spec_in_eq]; rfl

theorem dec_and (p q : Prop) [Decidable p] [Decidable q] : (if decide p = true then some (decide q) else some false) = some (decide (p ∧ q)) := by
  by_cases h : p <;> simp [h]

theorem some_dec {p q : Prop} [Decidable p] [Decidable q] (h : p ↔ q) : some (decide p) = some (decide q) := by rw [decide_eq_decide.2 h]

theorem impl_isInterval_eq (a b : Int) : impl_IsInterval.f a b = some (decide (-1000000000000 ≤ a ∧ b ≤ 1000000000000 ∧ a ≤ b)) := by
  unfold impl_IsInterval.f
  rw [impl_isValue_eq, impl_isValue_eq]
  simp only [Option.bind_some, dec_and]
  apply some_dec; omega

theorem spec_isInterval_eq (a b : Int) : spec_IsInterval.f a b = some (decide (-1000000000000 ≤ a ∧ b ≤ 1000000000000 ∧ a ≤ b)) := by
  unfold spec_IsInterval.f
  rw [spec_is_eq, spec_is_eq]
  simp only [Option.bind_some, dec_and]
  apply some_dec; omega

abbrev iv (a b : Int) : Prop := -1000000000000 ≤ a ∧ b ≤ 1000000000000 ∧ a ≤ b

theorem eqInterval_refl (a b : Int) : laws_eqInterval.f a b a b = some true := by
  unfold laws_eqInterval.f; rw [if_pos rfl, if_pos rfl]

def hcv (x : S28) : S31 := ⟨x.f0, x.f1⟩
theorem rd28 (l : List S28) (i : Nat) (h : i < l.length) : rd_T28 l (i : Int) = l[i] := by
  unfold rd_T28; rw [Int.toNat_natCast, List.getD_eq_getElem?_getD, List.getElem?_eq_getElem h]; rfl
theorem rd31 (l : List S31) (i : Nat) (h : i < l.length) : rd_T31 l (i : Int) = l[i] := by
  unfold rd_T31; rw [Int.toNat_natCast, List.getD_eq_getElem?_getD, List.getElem?_eq_getElem h]; rfl
theorem to_loop (l : List S28) (hl : l.length ≤ 1048576) : ∀ (d : Nat) (s : List S31) (i : Nat), i + d = l.length → s.length = l.length → (∀ j, j < i → s[j]? = (l.map hcv)[j]?) → ∀ k, d < k → laws_toIntervalS.l0 k l s (i : Int) = some (l.map hcv) := by
  intro d
  induction d with
  | zero =>
    intro s i hi hs hj k hk
    obtain ⟨k, rfl⟩ : ∃ z, k = z + 1 := ⟨k - 1, by omega⟩
    simp only [laws_toIntervalS.l0]
    rw [if_neg (by omega)]; congr 1
    apply List.ext_getElem?
    intro j
    by_cases c : j < i
    · exact hj j c
    · rw [List.getElem?_eq_none (by omega), List.getElem?_eq_none (by rw [List.length_map]; omega)]
  | succ d ih =>
    intro s i hi hs hj k hk
    obtain ⟨k, rfl⟩ : ∃ z, k = z + 1 := ⟨k - 1, by omega⟩
    simp only [laws_toIntervalS.l0, laws_toInterval.f]
    rw [if_pos (by omega), if_pos (by omega)]; simp only [Option.bind_some]
    rw [if_pos (by omega), wid ((i : Int) + 1) (by omega) (by omega), show ((i : Int) + 1) = ((i + 1 : Nat) : Int) by omega, Int.toNat_natCast]
    refine ih _ (i + 1) (by omega) (by rw [List.length_set]; exact hs) (fun j hj' => ?_) k (by omega)
    by_cases c : j = i
    · subst c
      rw [List.getElem?_set_self (by omega), rd28 l j (by omega), List.getElem?_map, List.getElem?_eq_getElem (by omega)]; rfl
    · rw [List.getElem?_set_ne (by omega)]; exact hj j (by omega)
theorem to_eq (l : List S28) (hl : l.length ≤ 1048576) (k : Nat) (hk : l.length < k) : laws_toIntervalS.f k l = some (l.map hcv) := by
  unfold laws_toIntervalS.f
  rw [if_pos (by omega), if_pos (by omega), Int.toNat_natCast]
  exact to_loop l hl l.length _ 0 (by omega) (by rw [List.length_replicate]) (fun j hj => by omega) k hk
def hfold : List S31 → Int → Int → Int × Int
  | [], a, b => (a, b)
  | x :: r, a, b => hfold r (mn a x.f0) (mx b x.f1)
def hall : List S31 → Bool
  | [] => true
  | x :: r => decide (iv x.f0 x.f1) && hall r
theorem drop_at (L : List S31) (i : Nat) (h : i < L.length) : L.drop i = L[i] :: L.drop (i + 1) := List.drop_eq_getElem_cons h
theorem spec_l1 (L : List S31) (hL : L.length ≤ 1048576) : ∀ (d i : Nat) (a b : Int), i + d = L.length → ∀ k, d < k → spec_HullOf.l1 k L (i : Int) a b = some ((hfold (L.drop i) a b).1, (hfold (L.drop i) a b).2, 0) := by
  intro d
  induction d with
  | zero =>
    intro i a b hi k hk
    obtain ⟨k, rfl⟩ : ∃ z, k = z + 1 := ⟨k - 1, by omega⟩
    simp only [spec_HullOf.l1]
    rw [if_neg (by omega), List.drop_eq_nil_of_le (by omega)]; rfl
  | succ d ih =>
    intro i a b hi k hk
    obtain ⟨k, rfl⟩ : ∃ z, k = z + 1 := ⟨k - 1, by omega⟩
    simp only [spec_HullOf.l1, spec_l02Hull.f]
    rw [if_pos (by omega), if_pos (by omega)]; simp only [Option.bind_some]
    rw [wid ((i : Int) + 1) (by omega) (by omega), show ((i : Int) + 1) = ((i + 1 : Nat) : Int) by omega, ih (i + 1) _ _ (by omega) k (by omega), rd31 L i (by omega), drop_at L i (by omega)]; rfl
theorem impl_l1 (L : List S31) (hL : L.length ≤ 1048576) : ∀ (d i : Nat) (a b : Int), i + d = L.length → ∀ k, d < k → impl_HullOf.l1 k L (L.length : Int) (i : Int) a b = some ((hfold (L.drop i) a b).1, (hfold (L.drop i) a b).2, 0) := by
  intro d
  induction d with
  | zero =>
    intro i a b hi k hk
    obtain ⟨k, rfl⟩ : ∃ z, k = z + 1 := ⟨k - 1, by omega⟩
    simp only [impl_HullOf.l1]
    rw [if_neg (by omega), List.drop_eq_nil_of_le (by omega)]; rfl
  | succ d ih =>
    intro i a b hi k hk
    obtain ⟨k, rfl⟩ : ∃ z, k = z + 1 := ⟨k - 1, by omega⟩
    simp only [impl_HullOf.l1, impl_Interval_hull.f]
    rw [if_pos (by omega), if_pos (by omega), if_pos (by omega)]; simp only [Option.bind_some]
    rw [wid ((i : Int) + 1) (by omega) (by omega), show ((i : Int) + 1) = ((i + 1 : Nat) : Int) by omega, ih (i + 1) _ _ (by omega) k (by omega), rd31 L i (by omega), drop_at L i (by omega)]; rfl
def hfin (L : List S31) : Int × Int × Int :=
  if (L.length : Int) > 100 then (0, 0, 3) else if (L.length : Int) = 0 then (0, 0, 4) else ((hfold (L.drop 1) (rd_T31 L 0).f0 (rd_T31 L 0).f1).1, (hfold (L.drop 1) (rd_T31 L 0).f0 (rd_T31 L 0).f1).2, 0)
theorem spec_l0 (L : List S31) (hL : L.length ≤ 1048576) : ∀ (d i : Nat), i + d = L.length → ∀ k, d + L.length + 1 < k → spec_HullOf.l0 k L (i : Int) = some (if hall (L.drop i) = true then hfin L else (0, 0, 1)) := by
  intro d
  induction d with
  | zero =>
    intro i hi k hk
    obtain ⟨k, rfl⟩ : ∃ z, k = z + 1 := ⟨k - 1, by omega⟩
    simp only [spec_HullOf.l0]
    rw [if_neg (by omega), List.drop_eq_nil_of_le (by omega), if_pos (show hall [] = true from rfl)]
    unfold hfin
    by_cases c : (L.length : Int) > 100
    · rw [if_pos c, if_pos c]
    · by_cases c2 : (L.length : Int) = 0
      · rw [if_neg c, if_neg c, if_pos c2, if_pos c2]
      · rw [if_neg c, if_neg c, if_neg c2, if_neg c2, if_pos (by omega)]
        exact spec_l1 L hL (L.length - 1) 1 _ _ (by omega) k (by omega)
  | succ d ih =>
    intro i hi k hk
    obtain ⟨k, rfl⟩ : ∃ z, k = z + 1 := ⟨k - 1, by omega⟩
    simp only [spec_HullOf.l0]
    rw [if_pos (by omega), if_pos (by omega), rd31 L i (by omega), spec_isInterval_eq]; simp only [Option.bind_some]
    rw [drop_at L i (by omega)]
    by_cases c : iv L[i].f0 L[i].f1
    · rw [decide_eq_true c, if_pos rfl, wid ((i : Int) + 1) (by omega) (by omega), show ((i : Int) + 1) = ((i + 1 : Nat) : Int) by omega, ih (i + 1) (by omega) k (by omega)]
      simp [hall, c]
    · rw [decide_eq_false c, if_neg (by decide)]; simp [hall, c]
theorem hfold_first (L : List S31) (h : 0 < L.length) : hfold (L.drop 0) (rd_T31 L 0).f0 (rd_T31 L 0).f1 = hfold (L.drop 1) (rd_T31 L 0).f0 (rd_T31 L 0).f1 := by
  have e : rd_T31 L 0 = L[0] := rd31 L 0 h
  rw [drop_at L 0 h, e]
  show hfold (L.drop (0 + 1)) (mn L[0].f0 L[0].f0) (mx L[0].f1 L[0].f1) = _
  have e1 : ∀ x : Int, mn x x = x := fun x => by unfold mn; split <;> rfl
  have e2 : ∀ x : Int, mx x x = x := fun x => by unfold mx; split <;> rfl
  rw [e1, e2]
theorem impl_l0 (L : List S31) (hL : L.length ≤ 1048576) : ∀ (d i : Nat), i + d = L.length → ∀ k, d + L.length + 1 < k → impl_HullOf.l0 k L L (L.length : Int) (i : Int) = some (if hall (L.drop i) = true then hfin L else (0, 0, 1)) := by
  intro d
  induction d with
  | zero =>
    intro i hi k hk
    obtain ⟨k, rfl⟩ : ∃ z, k = z + 1 := ⟨k - 1, by omega⟩
    simp only [impl_HullOf.l0]
    rw [if_neg (by omega), List.drop_eq_nil_of_le (by omega), if_pos (show hall [] = true from rfl)]
    unfold hfin
    by_cases c : (L.length : Int) > 100
    · rw [if_pos c, if_pos c]
    · by_cases c2 : (L.length : Int) = 0
      · rw [if_neg c, if_neg c, if_pos c2, if_pos c2]
      · rw [if_neg c, if_neg c, if_neg c2, if_neg c2, if_pos (by omega)]
        have := impl_l1 L hL L.length 0 (rd_T31 L 0).f0 (rd_T31 L 0).f1 (by omega) k (by omega)
        rw [hfold_first L (by omega)] at this; exact this
  | succ d ih =>
    intro i hi k hk
    obtain ⟨k, rfl⟩ : ∃ z, k = z + 1 := ⟨k - 1, by omega⟩
    simp only [impl_HullOf.l0]
    rw [if_pos (by omega), if_pos (by omega), if_pos (by omega), rd31 L i (by omega), impl_isInterval_eq]; simp only [Option.bind_some]
    rw [drop_at L i (by omega)]
    by_cases c : iv L[i].f0 L[i].f1
    · rw [decide_eq_true c, if_pos rfl, wid ((i : Int) + 1) (by omega) (by omega), show ((i : Int) + 1) = ((i + 1 : Nat) : Int) by omega, ih (i + 1) (by omega) k (by omega)]
      simp [hall, c]
    · rw [decide_eq_false c, if_neg (by decide)]; simp [hall, c]
theorem eqS_loop (L : List S31) (hL : L.length ≤ 1048576) : ∀ (d i : Nat), i + d = L.length → ∀ k, d < k → laws_eqIntervalS.l0 k L L (i : Int) = some true := by
  intro d
  induction d with
  | zero =>
    intro i hi k hk
    obtain ⟨k, rfl⟩ : ∃ z, k = z + 1 := ⟨k - 1, by omega⟩
    simp only [laws_eqIntervalS.l0]; rw [if_neg (by omega)]
  | succ d ih =>
    intro i hi k hk
    obtain ⟨k, rfl⟩ : ∃ z, k = z + 1 := ⟨k - 1, by omega⟩
    simp only [laws_eqIntervalS.l0]
    rw [if_pos (by omega), if_pos (by omega), if_pos (by omega), eqInterval_refl]; simp only [Option.bind_some, if_true]
    rw [wid ((i : Int) + 1) (by omega) (by omega), show ((i : Int) + 1) = ((i + 1 : Nat) : Int) by omega, ih (i + 1) (by omega) k (by omega)]
theorem eqS_refl (L : List S31) (hL : L.length ≤ 1048576) (k : Nat) (hk : L.length < k) : laws_eqIntervalS.f k L L = some true := by
  unfold laws_eqIntervalS.f; rw [if_pos rfl]; exact eqS_loop L hL L.length 0 (by omega) k hk
theorem FnExactHullOf (l0 : List S28) (h : l0.length ≤ 9223372036854775807) : ∃ k, laws_FnExactHullOf.f k l0 = some true := by
  by_cases c : l0.length ≤ 1048576
  · refine ⟨2 * l0.length + 10, ?_⟩
    have hL : (l0.map hcv).length = l0.length := List.length_map ..
    unfold laws_FnExactHullOf.f laws_szIntervalS.f
    rw [wid (1048576 - (l0.length : Int)) (by omega) (by omega), if_neg (by omega)]; simp only [Option.bind_some]
    rw [if_neg (by omega), to_eq l0 c _ (by omega)]; simp only [Option.bind_some]
    unfold spec_HullOf.f impl_HullOf.f
    have e1 := spec_l0 (l0.map hcv) (by omega) (l0.map hcv).length 0 (by omega) (2 * l0.length + 10) (by omega)
    have e2 := impl_l0 (l0.map hcv) (by omega) (l0.map hcv).length 0 (by omega) (2 * l0.length + 10) (by omega)
    have z : ((0 : Nat) : Int) = 0 := rfl
    rw [z] at e1 e2
    rw [e1, e2]; simp only [Option.bind_some, eqInterval_refl, if_true, bne_self_eq_false]
    show laws_FnExactHullOf.j0 (2 * l0.length + 9 + 1) l0 (l0.map hcv) false = some true
    simp only [laws_FnExactHullOf.j0]
    rw [if_neg (by decide), to_eq l0 c _ (by omega)]; simp only [Option.bind_some]
    rw [eqS_refl _ (by omega) _ (by omega)]; rfl
  · refine ⟨1, ?_⟩
    unfold laws_FnExactHullOf.f laws_szIntervalS.f
    rw [wid (1048576 - (l0.length : Int)) (by omega) (by omega), if_pos (by omega)]; rfl

end Go.Proofs.Ytboccnkleaiclaa.Pure
