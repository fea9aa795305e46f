-- The machine's side of the law FnAngleTexts: functions and their walks, made by q.py out of the kit's own print.
import Derived.Test.YtndjeclnadpifaaDoorQFnAngleTextsx0
import Derived.Test.YtndjeclnadpifaaDoorQFnAngleTextsx4
namespace Go.Proofs.YtndjeclnadpifaaDoor.PFnAngleTexts
open Go.RowKit Go.Proofs.YtndjeclnadpifaaDoorW.PrintWords Go.Proofs.YtndjeclnadpifaaDoorW.PrintLast Go.Proofs.YtndjeclnadpifaaDoorW.PrintMore
attribute [local go_sem] max2_int min2_int max_two min_two max_three min_three max_four min_four   -- for this text's walks alone
set_option linter.unusedVariables false
set_option linter.unusedSimpArgs false

-- NOT PRINTED: function 118 (strconv_ParseUint)

-- NOT PRINTED: function 102 (strconv_ParseInt_102)

-- NOT PRINTED: function 137 (stringslite_Clone)

-- NOT PRINTED: function 119 (strconv_syntaxError)

-- NOT PRINTED: function 120 (strconv_rangeError)

-- NOT PRINTED: function 138 (errors_New)

-- NOT PRINTED: function 146 (strconv_Itoa_146)

-- NOT PRINTED: function 139 (strconv_Itoa_139)

-- NOT PRINTED: function 121 (strconv_baseError)

-- NOT PRINTED: function 122 (strconv_bitSizeError)

-- NOT PRINTED: function 103 (strconv_toError)

-- NOT PRINTED: function 88 (strconv_ParseInt_88)

/-! ### impl_readDecimal: function 56 -/
-- TAB
def impl_readDecimal.f (k : Nat) (s : ByteArray) : Option (Int × Bool) := if s.size > 19 then (some (0, false)) else (match Lib.parseIntB 64 s.data.toList with | .ok v => (impl_decimal.f k v).bind fun t => some (v, t.toList == s.toList) | .range => some (Lib.intSat 64 s.data.toList, false) | _ => some (0, false))
theorem impl_readDecimal.mono : ∀ a0 k, LeO (impl_readDecimal.f k a0) (impl_readDecimal.f (k + 1) a0) := fun _ _ => LeO.refl _
theorem readDec_below {w W w9 : World} (hb : Below w.heap.size w W) (h : w9 = W ∨ ∃ t, w9 = Lib.bytesWorld W 5 t) : Below w.heap.size w w9 := by
  rcases h with rfl | ⟨t, rfl⟩
  · exact hb
  · exact Below.trans hb (Joins.below_bytesWorld _ _ _ _ hb.size)
set_option maxHeartbeats 8000000 in
set_option maxRecDepth 100000 in
theorem impl_readDecimal.calls (k : Nat) (a0 : ByteArray) (r1 : Int) (r2 : Bool) (w : World) (h : impl_readDecimal.f k a0 = some (r1, r2)) (hT : Aside0 (TabAt w)) :
    Calls Tryd.prog 56 #[.string a0] w fun e w' => e = .returned (.tuple #[.int .i64 r1, .bool r2]) ∧ Below w.heap.size w w' := by
  have HB := Aside0.mk (Below.refl w.heap.size w)
  obtain ⟨t2, p2, hs⟩ := hT.out.syn
  obtain ⟨t3, p3, hr⟩ := hT.out.ran
  have HS := Aside0.mk hs
  have HR := Aside0.mk hr
  clear hs hr
  unfold impl_readDecimal.f at h
  by_cases c : a0.size > 19
  · rw [if_pos c] at h
    have c1 : decide (19 < (a0.size : Int)) = true := decide_eq_true (by omega)
    simp only [Option.some.injEq, Prod.mk.injEq] at h
    obtain ⟨rfl, rfl⟩ := h
    go_enter Tryd.func56, Tryd.ntmps56
    go_wp2
    go_ret2
    exact ⟨rfl, HB.out⟩
  · rw [if_neg c] at h
    have c1 : decide (19 < (a0.size : Int)) = false := decide_eq_false (by omega)
    cases hp : Lib.parseIntB 64 a0.data.toList
    · rename_i v
      have HP := Aside0.mk hp
      rw [hp] at h
      replace h := Option.bind_eq_some_iff.mp h
      obtain ⟨t, A0, h⟩ := h
      have A := Aside0.mk A0
      clear A0 hp
      simp only [Option.some.injEq, Prod.mk.injEq] at h
      obtain ⟨rfl, rfl⟩ := h
      go_enter Tryd.func56, Tryd.ntmps56
      go_wp2_with (first
        | (go_at_call 88; refine (Tryd.strconv_ParseInt_10_at64_ok a0 (by omega) v HP.out _).mono ?_; rintro e w9 ⟨rfl, hw9⟩; have HB9 : Aside0 (Below w.heap.size w w9) := ⟨readDec_below HB.out hw9⟩; clear hw9 HB; have HB := HB9; clear HB9)
        | (go_at_call 49; refine (impl_decimal.calls k v t _ A.out (tabAt_on hT (by repeat (first | (with_reducible first | exact HB.out | apply below_alloc | apply pw_below_drewN | apply below_drew1) | exact HB.out)))).mono ?_; rintro e w8 ⟨rfl, hb8⟩; have HB8 := below_step HB.out hb8; clear HB; have HB := Aside0.mk HB8; clear HB8))
      go_ret2
      exact ⟨rfl, HB.out⟩
    · skip
      have HP := Aside0.mk hp
      rw [hp] at h
      clear hp
      simp only [Option.some.injEq, Prod.mk.injEq] at h
      obtain ⟨rfl, rfl⟩ := h
      go_enter Tryd.func56, Tryd.ntmps56
      go_wp2_with (first
        | (go_at_call 88; refine (Tryd.strconv_ParseInt_10_at64_syntax a0 (by omega) _ HP.out (fun _ e => by cases e) (fun e => by cases e) _ _ HS.out (.inr ⟨_, _, rfl⟩)).mono ?_; rintro e w9 ⟨N, rfl, hN, hN2, hb9⟩; have HB9 := below_step HB.out hb9; clear HB hb9; have HB := Aside0.mk HB9; clear HB9))
      go_ret2
      exact ⟨rfl, HB.out⟩
    · skip
      have HP := Aside0.mk hp
      rw [hp] at h
      clear hp
      simp only [Option.some.injEq, Prod.mk.injEq] at h
      obtain ⟨rfl, rfl⟩ := h
      go_enter Tryd.func56, Tryd.ntmps56
      go_wp2_with (first
        | (go_at_call 88; refine (Tryd.strconv_ParseInt_10_at64_range a0 (by omega) HP.out _ _ HR.out (.inr ⟨_, _, rfl⟩)).mono ?_; rintro e w9 ⟨N, rfl, hN, hN2, hb9⟩; have HB9 := below_step HB.out hb9; clear HB hb9; have HB := Aside0.mk HB9; clear HB9))
      go_ret2
      exact ⟨rfl, HB.out⟩

/-! ### impl_ReadAngle: function 31 -/
-- TAB
theorem cutp_calls (s P : ByteArray) (neg : Bool) (w : World) (hP : (⟨(Lib.trimPrefix s.data.toList [45]).toArray⟩ : ByteArray) = P) (hn : Lib.hasPrefix s.data.toList [45] = neg) :
    Calls Tryd.prog 71 #[.string s, .string ⟨#[45]⟩] w fun e w' => e = .returned (.tuple #[.string P, .bool neg]) ∧ w' = w := by
  subst hP; subst hn
  exact Tryd.strings_CutPrefix s ⟨#[45]⟩ w
theorem cut_calls (P D R : ByteArray) (b : Bool) (w : World) (hs : P.size < 4294967281) (hD : (⟨(Lib.cut P.data.toList [100]).1.toArray⟩ : ByteArray) = D) (hR : (⟨(Lib.cut P.data.toList [100]).2.1.toArray⟩ : ByteArray) = R) (hb : (Lib.cut P.data.toList [100]).2.2 = b) (hT : Aside0 (TabAt w)) :
    Calls Tryd.prog 72 #[.string P, .string ⟨#[100]⟩] w fun e w' => e = .returned (.tuple #[.string D, .string R, .bool b]) ∧ Below w.heap.size w w' := by
  subst hD; subst hR; subst hb
  obtain ⟨m, hm⟩ := hT.out.most
  refine (Tryd.strings_Cut P ⟨#[100]⟩ m w hs hm).mono ?_
  rintro e w' ⟨rfl, n, rfl⟩
  exact ⟨rfl, pw_below_drewN (Below.refl _ _) n⟩
theorem drewN_cell {w : World} {n : Nat} {a : Addr} {v : Value} (h : w.cell? a = some v) : (w.drewN n).cell? a = some v := h
set_option maxHeartbeats 8000000 in
set_option maxRecDepth 100000 in
theorem impl_digit.calls (R : ByteArray) (i : Int) (g : Nat) (w : World) (h0 : 0 ≤ i) (h1 : i < (R.size : Int)) (hc : w.cell? ⟨g, 0, none⟩ = some (.string R)) :
    Calls Tryd.prog 73 #[.int .i64 i, .pointer (some ⟨g, 0, none⟩)] w fun e w' => e = .returned (.int .i64 (wrap64 (wrap64 (bt R i) - 48))) ∧ Drawn0 w w' := by
  have hx := bt_at R i
  have p := eq_true h0
  have q := eq_true h1
  have q2 := eq_true (show i.toNat < R.size by omega)
  clear h0 h1
  go_enter Tryd.func73, Tryd.ntmps73
  go_wp2
  go_ret
  exact ⟨by first | rfl | (simp [go_sem]; done), by repeat (first | exact Drawn0.refl _ | apply Drawn0.step)⟩
def impl_ReadAngle.v (d : Int) (R : ByteArray) : Int := wrap64 (wrap64 (wrap64 (wrap64 (d * 3600) + wrap64 (wrap64 (wrap64 (10 * wrap64 (wrap64 (bt R 0) - 48)) + wrap64 (wrap64 (bt R 1) - 48)) * 60)) + wrap64 (10 * wrap64 (wrap64 (bt R 3) - 48))) + wrap64 (wrap64 (bt R 4) - 48))
def impl_ReadAngle.t (k : Nat) (s : ByteArray) (a : Int) : Option (Int × Int) := (impl_AngleText.f k a).bind fun t => if t.2 = 0 then (if t.1.toList = s.toList then (some (a, 0)) else (some (0, 6))) else (some (0, 6))
def impl_ReadAngle.p (k : Nat) (s D R : ByteArray) (neg : Bool) : Option (Int × Int) := (impl_readDecimal.f k D).bind fun d => (if d.2 = true then ((impl_in.f d.1 0 360).bind fun r => (if r = true then (if (R.size : Int) = 6 then (if neg = true then (impl_ReadAngle.t k s (wrap64 (-(impl_ReadAngle.v d.1 R)))) else (impl_ReadAngle.t k s (impl_ReadAngle.v d.1 R))) else (some (0, 6))) else (some (0, 6)))) else (some (0, 6)))
def impl_ReadAngle.f (k : Nat) (s : ByteArray) : Option (Int × Int) := if s.size < 4294967281 then (impl_ReadAngle.p k s ⟨(Lib.cut (Lib.trimPrefix s.data.toList [45]) [100]).1.toArray⟩ ⟨(Lib.cut (Lib.trimPrefix s.data.toList [45]) [100]).2.1.toArray⟩ (Lib.hasPrefix s.data.toList [45])) else none
theorem impl_ReadAngle.mono : ∀ a0 k, LeO (impl_ReadAngle.f k a0) (impl_ReadAngle.f (k + 1) a0) := by
  intro a0 k
  unfold impl_ReadAngle.f impl_ReadAngle.p impl_ReadAngle.t
  repeat' first
      | (with_reducible exact impl_readDecimal.mono _ _)
      | (with_reducible exact impl_AngleText.mono _ _)
      | (with_reducible exact LeO.refl _)
      | (with_reducible refine LeO.ite ?_ ?_)
      | (with_reducible refine LeO.bind ?_ (fun _ => ?_))
set_option maxHeartbeats 8000000 in
set_option maxRecDepth 100000 in
theorem impl_ReadAngle.calls_p (k : Nat) (s P D R : ByteArray) (neg b : Bool) (r1 r2 : Int) (w : World) (h : impl_ReadAngle.p k s D R neg = some (r1, r2)) (hs : P.size < 4294967281)
    (hP : (⟨(Lib.trimPrefix s.data.toList [45]).toArray⟩ : ByteArray) = P) (hn : Lib.hasPrefix s.data.toList [45] = neg) (hD : (⟨(Lib.cut P.data.toList [100]).1.toArray⟩ : ByteArray) = D) (hR : (⟨(Lib.cut P.data.toList [100]).2.1.toArray⟩ : ByteArray) = R) (hb : (Lib.cut P.data.toList [100]).2.2 = b) (hT : Aside0 (TabAt w)) :
    Calls Tryd.prog 31 #[.string s] w fun e w' => e = .returned (.tuple #[.int .i64 r1, .int .i64 r2]) ∧ Below w.heap.size w w' := by
  have hmf : ∀ (fn : Fn) (first cap : Array Value) (w : World), (Instr.makeFunc fn first cap).run Tryd.prog w = .ok (.func fn first cap) w := fun _ _ _ _ => rfl
  have HB := Aside0.mk (Below.refl w.heap.size w)
  have HS := Aside0.mk hs
  have HP := Aside0.mk hP
  have HN := Aside0.mk hn
  have HD := Aside0.mk hD
  have HR := Aside0.mk hR
  have HC := Aside0.mk hb
  have H := h
  clear h hs hP hn hD hR hb
  unfold impl_ReadAngle.p at H
  replace H := Option.bind_eq_some_iff.mp H
  obtain ⟨⟨d, ok⟩, A10, H⟩ := H
  have A1 := Aside0.mk A10
  clear A10
  by_cases c1 : ok = true
  · subst c1
    rw [if_pos rfl] at H
    replace H := Option.bind_eq_some_iff.mp H
    obtain ⟨inr, A20, H⟩ := H
    have A2 := Aside0.mk A20
    clear A20
    by_cases c2 : inr = true
    · subst c2
      rw [if_pos rfl] at H
      by_cases c3 : (R.size : Int) = 6
      · rw [if_pos c3] at H
        have c3b : ((R.size : Int) == 6) = true := beq_iff_eq.mpr c3
        have c3c : ((R.size : Int) != 6) = false := bne_eq_false_iff_eq.mpr c3
        have p0 : (0 : Int) < (R.size : Int) := by omega
        have p1 : (1 : Int) < (R.size : Int) := by omega
        have p3 : (3 : Int) < (R.size : Int) := by omega
        have p4 : (4 : Int) < (R.size : Int) := by omega
        have HQ := Aside0.mk (And.intro p0 (And.intro p1 (And.intro p3 p4)))
        clear p0 p1 p3 p4 c3
        by_cases c4 : neg = true
        · skip
          subst c4
          rw [if_pos rfl] at H
          unfold impl_ReadAngle.t impl_ReadAngle.v at H
          replace H := Option.bind_eq_some_iff.mp H
          obtain ⟨⟨t, code⟩, A30, H⟩ := H
          have A3 := Aside0.mk A30
          clear A30
          have HH := Aside0.mk H
          clear H
          go_enter Tryd.func31, Tryd.ntmps31
          go_wp2_with (first | ((with_reducible refine gate_callee (f := 71) rfl ?_); refine goesL_ (some 16) rfl rfl Tryd.func71 (by kernel_rfl) rfl #[.string s, .string ⟨#[45]⟩] rfl (by (try simp only [List.map_toArray, List.map_cons, List.map_nil]); first | done | rfl) ?_; (with_reducible refine (cutp_calls s P _ _ HP.out HN.out).mono ?_); rintro e w2 ⟨rfl, rfl⟩; refine ⟨_, rfl, ?_⟩) | ((with_reducible refine gate_callee (f := 72) rfl ?_); refine goesL_ (some 21) rfl rfl Tryd.func72 (by kernel_rfl) rfl #[.string P, .string ⟨#[100]⟩] rfl (by (try simp only [List.map_toArray, List.map_cons, List.map_nil]); first | done | rfl) ?_; (with_reducible refine (cut_calls P D R b _ HS.out HD.out HR.out HC.out (tabAt_on hT (by repeat (first | (with_reducible first | exact HB.out | apply below_alloc | apply pw_below_drewN | apply below_drew1 | refine below_set ?_ (Nat.le_refl _)) | exact HB.out)))).mono ?_); rintro e w5 ⟨rfl, hb5⟩; refine ⟨_, rfl, ?_⟩; have n0_ := Aside0.mk (below_step (by repeat (first | (with_reducible first | exact HB.out | apply below_alloc | apply pw_below_drewN | apply below_drew1 | refine below_set ?_ (Nat.le_refl _)) | exact HB.out)) hb5); have n1_ := Aside0.mk (blk_below (g := w2.heap.size) (o := .cells #[.string P] 9 (0, 0)) (blk_new _ _) hb5); clear HB hb5; have HB := n0_; have BK := n1_; clear n0_ n1_; have hz : w5.cell? ⟨w2.heap.size, 0, none⟩ = some (.string P) := (blk_cell BK.out 0).trans rfl; have hf := blk_frozen BK.out 0) | ((with_reducible refine gate_callee (f := 56) rfl ?_); refine goesL_ (some 27) rfl rfl Tryd.func56 (by kernel_rfl) rfl #[.string D] rfl (by (try simp only [List.map_toArray, List.map_cons, List.map_nil]); first | done | rfl) ?_; (with_reducible refine (impl_readDecimal.calls k D d _ _ A1.out (tabAt_on hT (by repeat (first | (with_reducible first | exact HB.out | apply below_alloc | apply pw_below_drewN | apply below_drew1 | refine below_set ?_ (Nat.le_refl _)) | exact HB.out)))).mono ?_); rintro e w6 ⟨rfl, hb6⟩; refine ⟨_, rfl, ?_⟩; have n0_ := Aside0.mk (below_step (by repeat (first | (with_reducible first | exact HB.out | apply below_alloc | apply pw_below_drewN | apply below_drew1 | refine below_set ?_ (Nat.le_refl _)) | exact HB.out)) hb6); have n1_ := Aside0.mk (blk_below (g := w2.heap.size) (o := .cells #[.string R] 9 (0, 0)) (by (with_reducible repeat (first | refine blk_drewN ?_ _ | refine blk_drew ?_ | refine blk_alloc ?_ _)); refine blk_put (cs := #[.string P]) ?_ 0 _ rfl; (with_reducible repeat (first | refine blk_drewN ?_ _ | refine blk_drew ?_ | refine blk_alloc ?_ _)); exact BK.out) hb6); clear HB BK hb6 hz hf; have HB := n0_; have BK := n1_; clear n0_ n1_; have hz : w6.cell? ⟨w2.heap.size, 0, none⟩ = some (.string R) := (blk_cell BK.out 0).trans rfl) | (go_at_call 40; (with_reducible refine (impl_in.calls d 0 360 _ _ A2.out).mono ?_); rintro e w' ⟨rfl, ⟨nd, rfl⟩⟩) | (go_at_call 73; (with_reducible refine (impl_digit.calls R 0 w2.heap.size _ (by omega) HQ.out.1 (by repeat (first | exact hz | apply drewN_cell))).mono ?_); rintro e w' ⟨rfl, ⟨nd, rfl⟩⟩) | (go_at_call 73; (with_reducible refine (impl_digit.calls R 1 w2.heap.size _ (by omega) HQ.out.2.1 (by repeat (first | exact hz | apply drewN_cell))).mono ?_); rintro e w' ⟨rfl, ⟨nd, rfl⟩⟩) | (go_at_call 73; (with_reducible refine (impl_digit.calls R 3 w2.heap.size _ (by omega) HQ.out.2.2.1 (by repeat (first | exact hz | apply drewN_cell))).mono ?_); rintro e w' ⟨rfl, ⟨nd, rfl⟩⟩) | (go_at_call 73; (with_reducible refine (impl_digit.calls R 4 w2.heap.size _ (by omega) HQ.out.2.2.2 (by repeat (first | exact hz | apply drewN_cell))).mono ?_); rintro e w' ⟨rfl, ⟨nd, rfl⟩⟩))
          refine (impl_AngleText.calls k _ t code _ A3.out (tabAt_on hT (by repeat (first | (with_reducible first | exact HB.out | apply below_alloc | apply pw_below_drewN | apply below_drew1 | refine below_set ?_ (Nat.le_refl _)) | exact HB.out)))).mono ?_
          rintro e w9 ⟨rfl, hb9⟩
          have HB9 := below_step (by repeat (first | (with_reducible first | exact HB.out | apply below_alloc | apply pw_below_drewN | apply below_drew1 | refine below_set ?_ (Nat.le_refl _)) | exact HB.out)) hb9
          clear HB hb9
          have HB := Aside0.mk HB9
          clear HB9
          have H := HH.out
          clear HH
          by_cases c6 : code = 0
          · rw [if_pos c6] at H
            have c6b : (code == 0) = true := beq_iff_eq.mpr c6
            have c6c : (code != 0) = false := bne_eq_false_iff_eq.mpr c6
            clear c6
            by_cases c7 : t.toList = s.toList
            · rw [if_pos c7] at H
              have c7b : (t.toList == s.toList) = true := beq_iff_eq.mpr c7
              have c7c : (t.toList != s.toList) = false := bne_eq_false_iff_eq.mpr c7
              clear c7
              simp only [Option.some.injEq, Prod.mk.injEq] at H
              obtain ⟨rfl, rfl⟩ := H
              go_wp2
              go_ret2
              exact ⟨by first | rfl | (simp; done) | (simp [*]; done), by repeat (first | (with_reducible first | exact HB.out | apply below_alloc | apply pw_below_drewN | apply below_drew1 | refine below_set ?_ (Nat.le_refl _)) | exact HB.out)⟩
            · rw [if_neg c7] at H
              have c7b : (t.toList == s.toList) = false := beq_eq_false_iff_ne.mpr c7
              have c7c : (t.toList != s.toList) = true := bne_iff_ne.mpr c7
              clear c7
              simp only [Option.some.injEq, Prod.mk.injEq] at H
              obtain ⟨rfl, rfl⟩ := H
              go_wp2
              go_ret2
              exact ⟨by first | rfl | (simp; done) | (simp [*]; done), by repeat (first | (with_reducible first | exact HB.out | apply below_alloc | apply pw_below_drewN | apply below_drew1 | refine below_set ?_ (Nat.le_refl _)) | exact HB.out)⟩
          · rw [if_neg c6] at H
            have c6b : (code == 0) = false := beq_eq_false_iff_ne.mpr c6
            have c6c : (code != 0) = true := bne_iff_ne.mpr c6
            clear c6
            simp only [Option.some.injEq, Prod.mk.injEq] at H
            obtain ⟨rfl, rfl⟩ := H
            go_wp2
            go_ret2
            exact ⟨by first | rfl | (simp; done) | (simp [*]; done), by repeat (first | (with_reducible first | exact HB.out | apply below_alloc | apply pw_below_drewN | apply below_drew1 | refine below_set ?_ (Nat.le_refl _)) | exact HB.out)⟩
        · replace c4 := Bool.eq_false_iff.mpr c4
          subst c4
          rw [if_neg (by simp)] at H
          unfold impl_ReadAngle.t impl_ReadAngle.v at H
          replace H := Option.bind_eq_some_iff.mp H
          obtain ⟨⟨t, code⟩, A30, H⟩ := H
          have A3 := Aside0.mk A30
          clear A30
          have HH := Aside0.mk H
          clear H
          go_enter Tryd.func31, Tryd.ntmps31
          go_wp2_with (first | ((with_reducible refine gate_callee (f := 71) rfl ?_); refine goesL_ (some 16) rfl rfl Tryd.func71 (by kernel_rfl) rfl #[.string s, .string ⟨#[45]⟩] rfl (by (try simp only [List.map_toArray, List.map_cons, List.map_nil]); first | done | rfl) ?_; (with_reducible refine (cutp_calls s P _ _ HP.out HN.out).mono ?_); rintro e w2 ⟨rfl, rfl⟩; refine ⟨_, rfl, ?_⟩) | ((with_reducible refine gate_callee (f := 72) rfl ?_); refine goesL_ (some 21) rfl rfl Tryd.func72 (by kernel_rfl) rfl #[.string P, .string ⟨#[100]⟩] rfl (by (try simp only [List.map_toArray, List.map_cons, List.map_nil]); first | done | rfl) ?_; (with_reducible refine (cut_calls P D R b _ HS.out HD.out HR.out HC.out (tabAt_on hT (by repeat (first | (with_reducible first | exact HB.out | apply below_alloc | apply pw_below_drewN | apply below_drew1 | refine below_set ?_ (Nat.le_refl _)) | exact HB.out)))).mono ?_); rintro e w5 ⟨rfl, hb5⟩; refine ⟨_, rfl, ?_⟩; have n0_ := Aside0.mk (below_step (by repeat (first | (with_reducible first | exact HB.out | apply below_alloc | apply pw_below_drewN | apply below_drew1 | refine below_set ?_ (Nat.le_refl _)) | exact HB.out)) hb5); have n1_ := Aside0.mk (blk_below (g := w2.heap.size) (o := .cells #[.string P] 9 (0, 0)) (blk_new _ _) hb5); clear HB hb5; have HB := n0_; have BK := n1_; clear n0_ n1_; have hz : w5.cell? ⟨w2.heap.size, 0, none⟩ = some (.string P) := (blk_cell BK.out 0).trans rfl; have hf := blk_frozen BK.out 0) | ((with_reducible refine gate_callee (f := 56) rfl ?_); refine goesL_ (some 27) rfl rfl Tryd.func56 (by kernel_rfl) rfl #[.string D] rfl (by (try simp only [List.map_toArray, List.map_cons, List.map_nil]); first | done | rfl) ?_; (with_reducible refine (impl_readDecimal.calls k D d _ _ A1.out (tabAt_on hT (by repeat (first | (with_reducible first | exact HB.out | apply below_alloc | apply pw_below_drewN | apply below_drew1 | refine below_set ?_ (Nat.le_refl _)) | exact HB.out)))).mono ?_); rintro e w6 ⟨rfl, hb6⟩; refine ⟨_, rfl, ?_⟩; have n0_ := Aside0.mk (below_step (by repeat (first | (with_reducible first | exact HB.out | apply below_alloc | apply pw_below_drewN | apply below_drew1 | refine below_set ?_ (Nat.le_refl _)) | exact HB.out)) hb6); have n1_ := Aside0.mk (blk_below (g := w2.heap.size) (o := .cells #[.string R] 9 (0, 0)) (by (with_reducible repeat (first | refine blk_drewN ?_ _ | refine blk_drew ?_ | refine blk_alloc ?_ _)); refine blk_put (cs := #[.string P]) ?_ 0 _ rfl; (with_reducible repeat (first | refine blk_drewN ?_ _ | refine blk_drew ?_ | refine blk_alloc ?_ _)); exact BK.out) hb6); clear HB BK hb6 hz hf; have HB := n0_; have BK := n1_; clear n0_ n1_; have hz : w6.cell? ⟨w2.heap.size, 0, none⟩ = some (.string R) := (blk_cell BK.out 0).trans rfl) | (go_at_call 40; (with_reducible refine (impl_in.calls d 0 360 _ _ A2.out).mono ?_); rintro e w' ⟨rfl, ⟨nd, rfl⟩⟩) | (go_at_call 73; (with_reducible refine (impl_digit.calls R 0 w2.heap.size _ (by omega) HQ.out.1 (by repeat (first | exact hz | apply drewN_cell))).mono ?_); rintro e w' ⟨rfl, ⟨nd, rfl⟩⟩) | (go_at_call 73; (with_reducible refine (impl_digit.calls R 1 w2.heap.size _ (by omega) HQ.out.2.1 (by repeat (first | exact hz | apply drewN_cell))).mono ?_); rintro e w' ⟨rfl, ⟨nd, rfl⟩⟩) | (go_at_call 73; (with_reducible refine (impl_digit.calls R 3 w2.heap.size _ (by omega) HQ.out.2.2.1 (by repeat (first | exact hz | apply drewN_cell))).mono ?_); rintro e w' ⟨rfl, ⟨nd, rfl⟩⟩) | (go_at_call 73; (with_reducible refine (impl_digit.calls R 4 w2.heap.size _ (by omega) HQ.out.2.2.2 (by repeat (first | exact hz | apply drewN_cell))).mono ?_); rintro e w' ⟨rfl, ⟨nd, rfl⟩⟩))
          refine (impl_AngleText.calls k _ t code _ A3.out (tabAt_on hT (by repeat (first | (with_reducible first | exact HB.out | apply below_alloc | apply pw_below_drewN | apply below_drew1 | refine below_set ?_ (Nat.le_refl _)) | exact HB.out)))).mono ?_
          rintro e w9 ⟨rfl, hb9⟩
          have HB9 := below_step (by repeat (first | (with_reducible first | exact HB.out | apply below_alloc | apply pw_below_drewN | apply below_drew1 | refine below_set ?_ (Nat.le_refl _)) | exact HB.out)) hb9
          clear HB hb9
          have HB := Aside0.mk HB9
          clear HB9
          have H := HH.out
          clear HH
          by_cases c6 : code = 0
          · rw [if_pos c6] at H
            have c6b : (code == 0) = true := beq_iff_eq.mpr c6
            have c6c : (code != 0) = false := bne_eq_false_iff_eq.mpr c6
            clear c6
            by_cases c7 : t.toList = s.toList
            · rw [if_pos c7] at H
              have c7b : (t.toList == s.toList) = true := beq_iff_eq.mpr c7
              have c7c : (t.toList != s.toList) = false := bne_eq_false_iff_eq.mpr c7
              clear c7
              simp only [Option.some.injEq, Prod.mk.injEq] at H
              obtain ⟨rfl, rfl⟩ := H
              go_wp2
              go_ret2
              exact ⟨by first | rfl | (simp; done) | (simp [*]; done), by repeat (first | (with_reducible first | exact HB.out | apply below_alloc | apply pw_below_drewN | apply below_drew1 | refine below_set ?_ (Nat.le_refl _)) | exact HB.out)⟩
            · rw [if_neg c7] at H
              have c7b : (t.toList == s.toList) = false := beq_eq_false_iff_ne.mpr c7
              have c7c : (t.toList != s.toList) = true := bne_iff_ne.mpr c7
              clear c7
              simp only [Option.some.injEq, Prod.mk.injEq] at H
              obtain ⟨rfl, rfl⟩ := H
              go_wp2
              go_ret2
              exact ⟨by first | rfl | (simp; done) | (simp [*]; done), by repeat (first | (with_reducible first | exact HB.out | apply below_alloc | apply pw_below_drewN | apply below_drew1 | refine below_set ?_ (Nat.le_refl _)) | exact HB.out)⟩
          · rw [if_neg c6] at H
            have c6b : (code == 0) = false := beq_eq_false_iff_ne.mpr c6
            have c6c : (code != 0) = true := bne_iff_ne.mpr c6
            clear c6
            simp only [Option.some.injEq, Prod.mk.injEq] at H
            obtain ⟨rfl, rfl⟩ := H
            go_wp2
            go_ret2
            exact ⟨by first | rfl | (simp; done) | (simp [*]; done), by repeat (first | (with_reducible first | exact HB.out | apply below_alloc | apply pw_below_drewN | apply below_drew1 | refine below_set ?_ (Nat.le_refl _)) | exact HB.out)⟩
      · rw [if_neg c3] at H
        have c3b : ((R.size : Int) == 6) = false := beq_eq_false_iff_ne.mpr c3
        have c3c : ((R.size : Int) != 6) = true := bne_iff_ne.mpr c3
        clear c3
        simp only [Option.some.injEq, Prod.mk.injEq] at H
        obtain ⟨rfl, rfl⟩ := H
        go_enter Tryd.func31, Tryd.ntmps31
        go_wp2_with (first | ((with_reducible refine gate_callee (f := 71) rfl ?_); refine goesL_ (some 16) rfl rfl Tryd.func71 (by kernel_rfl) rfl #[.string s, .string ⟨#[45]⟩] rfl (by (try simp only [List.map_toArray, List.map_cons, List.map_nil]); first | done | rfl) ?_; (with_reducible refine (cutp_calls s P _ _ HP.out HN.out).mono ?_); rintro e w2 ⟨rfl, rfl⟩; refine ⟨_, rfl, ?_⟩) | ((with_reducible refine gate_callee (f := 72) rfl ?_); refine goesL_ (some 21) rfl rfl Tryd.func72 (by kernel_rfl) rfl #[.string P, .string ⟨#[100]⟩] rfl (by (try simp only [List.map_toArray, List.map_cons, List.map_nil]); first | done | rfl) ?_; (with_reducible refine (cut_calls P D R b _ HS.out HD.out HR.out HC.out (tabAt_on hT (by repeat (first | (with_reducible first | exact HB.out | apply below_alloc | apply pw_below_drewN | apply below_drew1 | refine below_set ?_ (Nat.le_refl _)) | exact HB.out)))).mono ?_); rintro e w5 ⟨rfl, hb5⟩; refine ⟨_, rfl, ?_⟩; have n0_ := Aside0.mk (below_step (by repeat (first | (with_reducible first | exact HB.out | apply below_alloc | apply pw_below_drewN | apply below_drew1 | refine below_set ?_ (Nat.le_refl _)) | exact HB.out)) hb5); have n1_ := Aside0.mk (blk_below (g := w2.heap.size) (o := .cells #[.string P] 9 (0, 0)) (blk_new _ _) hb5); clear HB hb5; have HB := n0_; have BK := n1_; clear n0_ n1_; have hz : w5.cell? ⟨w2.heap.size, 0, none⟩ = some (.string P) := (blk_cell BK.out 0).trans rfl; have hf := blk_frozen BK.out 0) | ((with_reducible refine gate_callee (f := 56) rfl ?_); refine goesL_ (some 27) rfl rfl Tryd.func56 (by kernel_rfl) rfl #[.string D] rfl (by (try simp only [List.map_toArray, List.map_cons, List.map_nil]); first | done | rfl) ?_; (with_reducible refine (impl_readDecimal.calls k D d _ _ A1.out (tabAt_on hT (by repeat (first | (with_reducible first | exact HB.out | apply below_alloc | apply pw_below_drewN | apply below_drew1 | refine below_set ?_ (Nat.le_refl _)) | exact HB.out)))).mono ?_); rintro e w6 ⟨rfl, hb6⟩; refine ⟨_, rfl, ?_⟩; have n0_ := Aside0.mk (below_step (by repeat (first | (with_reducible first | exact HB.out | apply below_alloc | apply pw_below_drewN | apply below_drew1 | refine below_set ?_ (Nat.le_refl _)) | exact HB.out)) hb6); have n1_ := Aside0.mk (blk_below (g := w2.heap.size) (o := .cells #[.string R] 9 (0, 0)) (by (with_reducible repeat (first | refine blk_drewN ?_ _ | refine blk_drew ?_ | refine blk_alloc ?_ _)); refine blk_put (cs := #[.string P]) ?_ 0 _ rfl; (with_reducible repeat (first | refine blk_drewN ?_ _ | refine blk_drew ?_ | refine blk_alloc ?_ _)); exact BK.out) hb6); clear HB BK hb6 hz hf; have HB := n0_; have BK := n1_; clear n0_ n1_; have hz : w6.cell? ⟨w2.heap.size, 0, none⟩ = some (.string R) := (blk_cell BK.out 0).trans rfl) | (go_at_call 40; (with_reducible refine (impl_in.calls d 0 360 _ _ A2.out).mono ?_); rintro e w' ⟨rfl, ⟨nd, rfl⟩⟩))
        go_ret2
        exact ⟨by first | rfl | (simp; done) | (simp [*]; done), by repeat (first | (with_reducible first | exact HB.out | apply below_alloc | apply pw_below_drewN | apply below_drew1 | refine below_set ?_ (Nat.le_refl _)) | exact HB.out)⟩
    · replace c2 := Bool.eq_false_iff.mpr c2
      subst c2
      rw [if_neg (by simp)] at H
      simp only [Option.some.injEq, Prod.mk.injEq] at H
      obtain ⟨rfl, rfl⟩ := H
      go_enter Tryd.func31, Tryd.ntmps31
      go_wp2_with (first | ((with_reducible refine gate_callee (f := 71) rfl ?_); refine goesL_ (some 16) rfl rfl Tryd.func71 (by kernel_rfl) rfl #[.string s, .string ⟨#[45]⟩] rfl (by (try simp only [List.map_toArray, List.map_cons, List.map_nil]); first | done | rfl) ?_; (with_reducible refine (cutp_calls s P _ _ HP.out HN.out).mono ?_); rintro e w2 ⟨rfl, rfl⟩; refine ⟨_, rfl, ?_⟩) | ((with_reducible refine gate_callee (f := 72) rfl ?_); refine goesL_ (some 21) rfl rfl Tryd.func72 (by kernel_rfl) rfl #[.string P, .string ⟨#[100]⟩] rfl (by (try simp only [List.map_toArray, List.map_cons, List.map_nil]); first | done | rfl) ?_; (with_reducible refine (cut_calls P D R b _ HS.out HD.out HR.out HC.out (tabAt_on hT (by repeat (first | (with_reducible first | exact HB.out | apply below_alloc | apply pw_below_drewN | apply below_drew1 | refine below_set ?_ (Nat.le_refl _)) | exact HB.out)))).mono ?_); rintro e w5 ⟨rfl, hb5⟩; refine ⟨_, rfl, ?_⟩; have n0_ := Aside0.mk (below_step (by repeat (first | (with_reducible first | exact HB.out | apply below_alloc | apply pw_below_drewN | apply below_drew1 | refine below_set ?_ (Nat.le_refl _)) | exact HB.out)) hb5); have n1_ := Aside0.mk (blk_below (g := w2.heap.size) (o := .cells #[.string P] 9 (0, 0)) (blk_new _ _) hb5); clear HB hb5; have HB := n0_; have BK := n1_; clear n0_ n1_; have hz : w5.cell? ⟨w2.heap.size, 0, none⟩ = some (.string P) := (blk_cell BK.out 0).trans rfl; have hf := blk_frozen BK.out 0) | ((with_reducible refine gate_callee (f := 56) rfl ?_); refine goesL_ (some 27) rfl rfl Tryd.func56 (by kernel_rfl) rfl #[.string D] rfl (by (try simp only [List.map_toArray, List.map_cons, List.map_nil]); first | done | rfl) ?_; (with_reducible refine (impl_readDecimal.calls k D d _ _ A1.out (tabAt_on hT (by repeat (first | (with_reducible first | exact HB.out | apply below_alloc | apply pw_below_drewN | apply below_drew1 | refine below_set ?_ (Nat.le_refl _)) | exact HB.out)))).mono ?_); rintro e w6 ⟨rfl, hb6⟩; refine ⟨_, rfl, ?_⟩; have n0_ := Aside0.mk (below_step (by repeat (first | (with_reducible first | exact HB.out | apply below_alloc | apply pw_below_drewN | apply below_drew1 | refine below_set ?_ (Nat.le_refl _)) | exact HB.out)) hb6); have n1_ := Aside0.mk (blk_below (g := w2.heap.size) (o := .cells #[.string R] 9 (0, 0)) (by (with_reducible repeat (first | refine blk_drewN ?_ _ | refine blk_drew ?_ | refine blk_alloc ?_ _)); refine blk_put (cs := #[.string P]) ?_ 0 _ rfl; (with_reducible repeat (first | refine blk_drewN ?_ _ | refine blk_drew ?_ | refine blk_alloc ?_ _)); exact BK.out) hb6); clear HB BK hb6 hz hf; have HB := n0_; have BK := n1_; clear n0_ n1_; have hz : w6.cell? ⟨w2.heap.size, 0, none⟩ = some (.string R) := (blk_cell BK.out 0).trans rfl) | (go_at_call 40; (with_reducible refine (impl_in.calls d 0 360 _ _ A2.out).mono ?_); rintro e w' ⟨rfl, ⟨nd, rfl⟩⟩))
      go_ret2
      exact ⟨by first | rfl | (simp; done) | (simp [*]; done), by repeat (first | (with_reducible first | exact HB.out | apply below_alloc | apply pw_below_drewN | apply below_drew1 | refine below_set ?_ (Nat.le_refl _)) | exact HB.out)⟩
  · replace c1 := Bool.eq_false_iff.mpr c1
    subst c1
    rw [if_neg (by simp)] at H
    simp only [Option.some.injEq, Prod.mk.injEq] at H
    obtain ⟨rfl, rfl⟩ := H
    go_enter Tryd.func31, Tryd.ntmps31
    go_wp2_with (first | ((with_reducible refine gate_callee (f := 71) rfl ?_); refine goesL_ (some 16) rfl rfl Tryd.func71 (by kernel_rfl) rfl #[.string s, .string ⟨#[45]⟩] rfl (by (try simp only [List.map_toArray, List.map_cons, List.map_nil]); first | done | rfl) ?_; (with_reducible refine (cutp_calls s P _ _ HP.out HN.out).mono ?_); rintro e w2 ⟨rfl, rfl⟩; refine ⟨_, rfl, ?_⟩) | ((with_reducible refine gate_callee (f := 72) rfl ?_); refine goesL_ (some 21) rfl rfl Tryd.func72 (by kernel_rfl) rfl #[.string P, .string ⟨#[100]⟩] rfl (by (try simp only [List.map_toArray, List.map_cons, List.map_nil]); first | done | rfl) ?_; (with_reducible refine (cut_calls P D R b _ HS.out HD.out HR.out HC.out (tabAt_on hT (by repeat (first | (with_reducible first | exact HB.out | apply below_alloc | apply pw_below_drewN | apply below_drew1 | refine below_set ?_ (Nat.le_refl _)) | exact HB.out)))).mono ?_); rintro e w5 ⟨rfl, hb5⟩; refine ⟨_, rfl, ?_⟩; have n0_ := Aside0.mk (below_step (by repeat (first | (with_reducible first | exact HB.out | apply below_alloc | apply pw_below_drewN | apply below_drew1 | refine below_set ?_ (Nat.le_refl _)) | exact HB.out)) hb5); have n1_ := Aside0.mk (blk_below (g := w2.heap.size) (o := .cells #[.string P] 9 (0, 0)) (blk_new _ _) hb5); clear HB hb5; have HB := n0_; have BK := n1_; clear n0_ n1_; have hz : w5.cell? ⟨w2.heap.size, 0, none⟩ = some (.string P) := (blk_cell BK.out 0).trans rfl; have hf := blk_frozen BK.out 0) | ((with_reducible refine gate_callee (f := 56) rfl ?_); refine goesL_ (some 27) rfl rfl Tryd.func56 (by kernel_rfl) rfl #[.string D] rfl (by (try simp only [List.map_toArray, List.map_cons, List.map_nil]); first | done | rfl) ?_; (with_reducible refine (impl_readDecimal.calls k D d _ _ A1.out (tabAt_on hT (by repeat (first | (with_reducible first | exact HB.out | apply below_alloc | apply pw_below_drewN | apply below_drew1 | refine below_set ?_ (Nat.le_refl _)) | exact HB.out)))).mono ?_); rintro e w6 ⟨rfl, hb6⟩; refine ⟨_, rfl, ?_⟩; have n0_ := Aside0.mk (below_step (by repeat (first | (with_reducible first | exact HB.out | apply below_alloc | apply pw_below_drewN | apply below_drew1 | refine below_set ?_ (Nat.le_refl _)) | exact HB.out)) hb6); have n1_ := Aside0.mk (blk_below (g := w2.heap.size) (o := .cells #[.string R] 9 (0, 0)) (by (with_reducible repeat (first | refine blk_drewN ?_ _ | refine blk_drew ?_ | refine blk_alloc ?_ _)); refine blk_put (cs := #[.string P]) ?_ 0 _ rfl; (with_reducible repeat (first | refine blk_drewN ?_ _ | refine blk_drew ?_ | refine blk_alloc ?_ _)); exact BK.out) hb6); clear HB BK hb6 hz hf; have HB := n0_; have BK := n1_; clear n0_ n1_; have hz : w6.cell? ⟨w2.heap.size, 0, none⟩ = some (.string R) := (blk_cell BK.out 0).trans rfl))
    go_ret2
    exact ⟨by first | rfl | (simp; done) | (simp [*]; done), by repeat (first | (with_reducible first | exact HB.out | apply below_alloc | apply pw_below_drewN | apply below_drew1 | refine below_set ?_ (Nat.le_refl _)) | exact HB.out)⟩
theorem impl_ReadAngle.calls (k : Nat) (a0 : ByteArray) (r1 r2 : Int) (w : World) (h : impl_ReadAngle.f k a0 = some (r1, r2)) (hT : Aside0 (TabAt w)) :
    Calls Tryd.prog 31 #[.string a0] w fun e w' => e = .returned (.tuple #[.int .i64 r1, .int .i64 r2]) ∧ Below w.heap.size w w' := by
  unfold impl_ReadAngle.f at h
  by_cases c : a0.size < 4294967281
  · rw [if_pos c] at h
    have e : (⟨(Lib.trimPrefix a0.data.toList [45]).toArray⟩ : ByteArray).data.toList = Lib.trimPrefix a0.data.toList [45] := by simp
    refine impl_ReadAngle.calls_p k a0 ⟨(Lib.trimPrefix a0.data.toList [45]).toArray⟩ _ _ _ (Lib.cut (Lib.trimPrefix a0.data.toList [45]) [100]).2.2 r1 r2 w h ?_ rfl rfl (by rw [e]) (by rw [e]) (by rw [e]) hT
    have hl : (Lib.trimPrefix a0.data.toList [45]).length ≤ a0.data.toList.length := by
      unfold Lib.trimPrefix
      split
      · rw [List.length_drop]; omega
      · exact Nat.le_refl _
    rw [data_length] at hl
    have hz : (⟨(Lib.trimPrefix a0.data.toList [45]).toArray⟩ : ByteArray).size = (Lib.trimPrefix a0.data.toList [45]).length := by simp [ByteArray.size]
    omega
  · rw [if_neg c] at h
    exact absurd h (by simp)

/-! ### spec_l01Split: function 67 -/
def spec_l01Split.l0 : Nat → ByteArray → Int → List ByteArray → Int → Int → Option (List ByteArray)
  | 0, _, _, _, _, _ => none
  | k + 1, x0, x1, x5, x6, x7 => if x7 ≤ (x0.size : Int) then (if x7 = (x0.size : Int) then (if 0 ≤ x6 then (if x6 ≤ x7 then (if x5.length < 8796093022208 then (spec_l01Split.l0 k x0 x1 (x5 ++ [x0.extract (x6 : Int).toNat (x7 : Int).toNat]) (wrap64 (x7 + 1)) (wrap64 (x7 + 1))) else (none)) else (none)) else (none)) else (if 0 ≤ x7 then (if x7 < (x0.size : Int) then (if (bt x0 x7) = x1 then (if 0 ≤ x6 then (if x6 ≤ x7 then (if x5.length < 8796093022208 then (spec_l01Split.l0 k x0 x1 (x5 ++ [x0.extract (x6 : Int).toNat (x7 : Int).toNat]) (wrap64 (x7 + 1)) (wrap64 (x7 + 1))) else (none)) else (none)) else (none)) else (spec_l01Split.l0 k x0 x1 x5 x6 (wrap64 (x7 + 1)))) else (none)) else (none))) else (some x5)
def spec_l01Split.f (k : Nat) (a0 : ByteArray) (a1 : Int) : Option (List ByteArray) := spec_l01Split.l0 k a0 a1 (([] : List ByteArray)) 0 0
theorem spec_l01Split.mono_l : ∀ k, (∀ y0 y1 y2 y3 y4, LeO (spec_l01Split.l0 k y0 y1 y2 y3 y4) (spec_l01Split.l0 (k + 1) y0 y1 y2 y3 y4))
  | 0 => fun _ _ _ _ _ r h => by simp [spec_l01Split.l0] at h
  | k + 1 => by
    have ih0 := spec_l01Split.mono_l k
    · intro y0 y1 y2 y3 y4
      unfold spec_l01Split.l0
      repeat' first
      | (with_reducible exact ih0 _ _ _ _ _)
      | (with_reducible exact LeO.refl _)
      | (with_reducible exact LeO.none _)
      | (with_reducible refine LeO.ite ?_ ?_)
      | (with_reducible refine LeO.bind ?_ (fun _ => ?_))
      | exact ih0 _ _ _ _ _
      | exact LeO.none _
      | refine LeO.ite ?_ ?_
      | refine LeO.bind ?_ (fun _ => ?_)
theorem spec_l01Split.mono : ∀ a0 a1 k, LeO (spec_l01Split.f k a0 a1) (spec_l01Split.f (k + 1) a0 a1) := by
  intro a0 a1 k
  have ih0 := spec_l01Split.mono_l k
  unfold spec_l01Split.f
  repeat' first
      | (with_reducible exact ih0 _ _ _ _ _)
      | (with_reducible exact LeO.refl _)
      | (with_reducible exact LeO.none _)
      | (with_reducible refine LeO.ite ?_ ?_)
      | (with_reducible refine LeO.bind ?_ (fun _ => ?_))
      | exact ih0 _ _ _ _ _
      | exact LeO.none _
      | refine LeO.ite ?_ ?_
      | refine LeO.bind ?_ (fun _ => ?_)
set_option maxHeartbeats 8000000 in
set_option maxRecDepth 100000 in
theorem spec_l01Split.calls (k : Nat) (a0 : ByteArray) (a1 : Int) (r : List ByteArray) (w : World) (h : spec_l01Split.f k a0 a1 = some r) :
    Calls Tryd.prog 67 #[.string a0, .int .u8 a1] w fun e w' => ∃ v0_ : Value, e = .returned (v0_) ∧ Kd.R Kd.string 9 w' w.heap.size (fun _ => True) v0_ r ∧ Below w.heap.size w w' := by
  have HB := Aside0.mk (Below.refl w.heap.size w)
  have H : (spec_l01Split.l0 k a0 a1 (([] : List ByteArray)) 0 0) = some r := h
  clear h
  obtain ⟨y257, hy257⟩ : ∃ y_ : List ByteArray, y_ = (([] : List ByteArray)) := ⟨_, rfl⟩
  replace H : (spec_l01Split.l0 k a0 a1 y257 0 0) = some r := by first | (rw [hy257]; with_reducible exact H) | (have H2_ := (Option.bind_some _ _).symm.trans H; rw [hy257]; with_reducible exact H2_) | (have H2_ := (Option.bind_some _ _).symm.trans H; with_reducible exact H2_) | with_reducible exact H | (rw [hy257]; exact H) | exact H
  have Ny257 := Aside0.mk hy257
  clear hy257
  have H' := Aside0.mk H
  clear H
  go_enter Tryd.func67, Tryd.ntmps67
  go_wp2_with (first | ((with_reducible refine gate_dst (N := 8) rfl ?_); refine Kd.R_lit Kd.string _ 9 ?hg (N := 8) ?hd (xs := ([] : List ByteArray)) (inner := []) (ok := fun _ => True) (okp := fun _ => True) ?hr ?hp (fun _ hk => hk) trivial (Below.refl _ _) (Nat.le_refl _) (by simp) ?_; (case hd => rfl); (case hg => rfl); (case hr => first | (go_simp; done) | (go_simp; rfl)); (case hp => exact (Reps.none _ _)); intro v258 w3 ho4 hb hg_ hnew_; clear hg_ hnew_; (first | rw [← Ny257.out] at ho4 | (simp only [Int.reduceToNat] at ho4; rw [← Ny257.out] at ho4)); have n0_ := Aside0.mk (Kd.R_lower ho4 (below_size (by repeat (first | (with_reducible first | exact HB.out | apply below_alloc | apply pw_below_drewN | apply below_drew1) | exact HB.out)))); have n1_ := Aside0.mk (below_step (by repeat (first | (with_reducible first | exact HB.out | apply below_alloc | apply pw_below_drewN | apply below_drew1) | exact HB.out)) hb); clear HB; have HO259 := n0_; have HB := n1_; clear n0_ n1_; clear hb ho4))
  go_loopg [5, 6, 7] k (fun kq v5 v6 v7 w' => ∃ (x5_1 : List ByteArray) (x6_1 : Int) (x7_1 : Int), v6 = .int .i64 x6_1 ∧ v7 = .int .i64 x7_1 ∧ Aside0 (spec_l01Split.l0 kq a0 a1 x5_1 x6_1 x7_1 = some r) ∧ Aside0 (kq ≤ k) ∧ Aside0 (Kd.R Kd.string 9 w' w.heap.size (fun _ => True) v5 x5_1) ∧ Aside0 (Below w.heap.size w w'))
  case atStart => exact ⟨(y257), (0), (0), (by first | rfl | (simp; done) | (simp [*]; done)), (by first | rfl | (simp; done) | (simp [*]; done)), H', ⟨Nat.le_refl _⟩, ⟨by (with_reducible repeat (first | apply Kd.R_alloc | apply Kd.R_drewN | apply Kd.R_drew)); exact HO259.out⟩, ⟨by repeat (first | (with_reducible first | exact HB.out | apply below_alloc | apply pw_below_drewN | apply below_drew1) | exact HB.out)⟩⟩
  case round =>
    clear H'
    try clear p2
    obtain ⟨x5_1, x6_1, x7_1, rfl, rfl, HA, HK1, HO_5, HB⟩ := hrel
    cases gk with
    | zero => exact absurd HA.out (by simp [spec_l01Split.l0])
    | succ k1 =>
      have H := HA.out
      clear HA
      simp only [spec_l01Split.l0] at H
      by_cases c5 : x7_1 ≤ (a0.size : Int)
      · rw [if_pos c5] at H
        have c5b0 : decide (x7_1 ≤ (a0.size : Int)) = true := decide_eq_true c5
        clear c5
        by_cases c6 : x7_1 = (a0.size : Int)
        · rw [if_pos c6] at H
          have c6b0 : (x7_1 == (a0.size : Int)) = true := beq_iff_eq.mpr c6
          have c6b1 : (x7_1 != (a0.size : Int)) = false := bne_eq_false_iff_eq.mpr c6
          clear c6
          by_cases c7 : 0 ≤ x6_1
          · rw [if_pos c7] at H
            have c7b0 := eq_true c7
            have c7b1 : decide (0 ≤ x6_1) = true := decide_eq_true c7
            clear c7
            by_cases c8 : x6_1 ≤ x7_1
            · rw [if_pos c8] at H
              have c8b0 := eq_true c8
              have c8b1 : decide (x6_1 ≤ x7_1) = true := decide_eq_true c8
              clear c8
              have c9b0 := eq_true (of_decide_eq_true (by first | (with_reducible assumption) | assumption) : x7_1 ≤ (a0.size : Int))
              by_cases c10 : x5_1.length < 8796093022208
              · rw [if_pos c10] at H
                have LMc10 := Aside0.mk c10
                clear c10
                obtain ⟨y260, hy260⟩ : ∃ y_ : List ByteArray, y_ = (x5_1 ++ [a0.extract (x6_1 : Int).toNat (x7_1 : Int).toNat]) := ⟨_, rfl⟩
                replace H : (spec_l01Split.l0 k1 a0 a1 y260 (wrap64 (x7_1 + 1)) (wrap64 (x7_1 + 1))) = some r := by first | (rw [hy260]; with_reducible exact H) | (have H2_ := (Option.bind_some _ _).symm.trans H; rw [hy260]; with_reducible exact H2_) | (have H2_ := (Option.bind_some _ _).symm.trans H; with_reducible exact H2_) | with_reducible exact H | (rw [hy260]; exact H) | exact H
                have Ny260 := Aside0.mk hy260
                clear hy260
                have H' := Aside0.mk H
                clear H
                go_wp2_with (first | ((with_reducible refine gate_builtin (b := .append) (xs := #[.tmp 26, .tmp 31]) rfl ?_); at_builtin; refine Kd.R_append Kd.string (w0 := w) w.heap.size rfl (.tmp 26) (.tmp 31) 66 9 (.string ⟨#[]⟩) 16 rfl Tryd.underlying66 info9 rfl (by decide) (by omega) u5 x5_1 (a0.extract (x6_1 : Int).toNat (x7_1 : Int).toNat) [.string (a0.extract (x6_1 : Int).toNat (x7_1 : Int).toNat)] (fun _ => True) (fun _ => False) rfl rfl ?aP (fun _ hk => hk.elim) ?aF ?aO ?aB ?aS ?aL ?_; (case aP => exact rfl); (case aB => exact (by repeat (first | (with_reducible first | exact HB.out | apply below_alloc | apply pw_below_drewN | apply below_drew1) | exact HB.out))); (case aF => exact (fun _ _ => trivial)); (case aO => exact (by (with_reducible repeat (first | apply Kd.R_alloc | apply Kd.R_drewN | apply Kd.R_drew)); exact HO_5.out)); (case aS => exact (below_size (by repeat (first | (with_reducible first | exact HB.out | apply below_alloc | apply pw_below_drewN | apply below_drew1) | exact HB.out)))); (case aL => have := LMc10.out; omega); intro v261 w11 ho hb hg hat; rw [← Ny260.out] at ho; have n0_ := Aside0.mk (hb); have n1_ := Aside0.mk (ho); clear HB; clear HO_5; have HB := n0_; have HO262 := n1_; clear n0_ n1_; clear ho hb hg hat))
                go_roundg k1
                case measure => have := HK1.out; omega
                case rel => exact ⟨(y260), (wrap64 (x7_1 + 1)), (wrap64 (x7_1 + 1)), (by first | rfl | (simp; done) | (simp [*]; done)), (by first | rfl | (simp; done) | (simp [*]; done)), H', ⟨by have := HK1.out; omega⟩, ⟨by (with_reducible repeat (first | apply Kd.R_alloc | apply Kd.R_drewN | apply Kd.R_drew)); exact HO262.out⟩, ⟨by repeat (first | (with_reducible first | exact HB.out | apply below_alloc | apply pw_below_drewN | apply below_drew1) | exact HB.out)⟩⟩
              · rw [if_neg c10] at H
                exact absurd H (by simp)
            · rw [if_neg c8] at H
              exact absurd H (by simp)
          · rw [if_neg c7] at H
            exact absurd H (by simp)
        · rw [if_neg c6] at H
          have c6b0 : (x7_1 == (a0.size : Int)) = false := beq_eq_false_iff_ne.mpr c6
          have c6b1 : (x7_1 != (a0.size : Int)) = true := bne_iff_ne.mpr c6
          by_cases c12 : 0 ≤ x7_1
          · rw [if_pos c12] at H
            have c12b0 : decide (0 ≤ x7_1) = true := decide_eq_true c12
            clear c12
            by_cases c13 : x7_1 < (a0.size : Int)
            · rw [if_pos c13] at H
              have c13b0 : decide (x7_1 < (a0.size : Int)) = true := decide_eq_true c13
              clear c13
              by_cases c15 : (bt a0 x7_1) = a1
              · rw [if_pos c15] at H
                have c15b0 : ((bt a0 x7_1) == a1) = true := beq_iff_eq.mpr c15
                have c15b1 : ((bt a0 x7_1) != a1) = false := bne_eq_false_iff_eq.mpr c15
                clear c15
                by_cases c16 : 0 ≤ x6_1
                · rw [if_pos c16] at H
                  have c16b0 := eq_true c16
                  have c16b1 : decide (0 ≤ x6_1) = true := decide_eq_true c16
                  clear c16
                  by_cases c17 : x6_1 ≤ x7_1
                  · rw [if_pos c17] at H
                    have c17b0 := eq_true c17
                    have c17b1 : decide (x6_1 ≤ x7_1) = true := decide_eq_true c17
                    clear c17
                    have c18b0 := eq_true (of_decide_eq_true (by first | (with_reducible assumption) | assumption) : x7_1 ≤ (a0.size : Int))
                    by_cases c19 : x5_1.length < 8796093022208
                    · rw [if_pos c19] at H
                      have LMc19 := Aside0.mk c19
                      clear c19
                      obtain ⟨y263, hy263⟩ : ∃ y_ : List ByteArray, y_ = (x5_1 ++ [a0.extract (x6_1 : Int).toNat (x7_1 : Int).toNat]) := ⟨_, rfl⟩
                      replace H : (spec_l01Split.l0 k1 a0 a1 y263 (wrap64 (x7_1 + 1)) (wrap64 (x7_1 + 1))) = some r := by first | (rw [hy263]; with_reducible exact H) | (have H2_ := (Option.bind_some _ _).symm.trans H; rw [hy263]; with_reducible exact H2_) | (have H2_ := (Option.bind_some _ _).symm.trans H; with_reducible exact H2_) | with_reducible exact H | (rw [hy263]; exact H) | exact H
                      have Ny263 := Aside0.mk hy263
                      clear hy263
                      have H' := Aside0.mk H
                      clear H
                      have p14 : 0 ≤ (x7_1 : Int) := of_decide_eq_true (by first | (with_reducible assumption) | assumption)
                      have q14 : x7_1 < (a0.size : Int) := of_decide_eq_true (by first | (with_reducible assumption) | assumption)
                      have hx14 := bt_at a0 x7_1
                      replace p14 := eq_true p14
                      replace q14 := eq_true q14
                      go_wp2_with (first | ((with_reducible refine gate_builtin (b := .append) (xs := #[.tmp 26, .tmp 31]) rfl ?_); at_builtin; refine Kd.R_append Kd.string (w0 := w) w.heap.size rfl (.tmp 26) (.tmp 31) 66 9 (.string ⟨#[]⟩) 16 rfl Tryd.underlying66 info9 rfl (by decide) (by omega) u5 x5_1 (a0.extract (x6_1 : Int).toNat (x7_1 : Int).toNat) [.string (a0.extract (x6_1 : Int).toNat (x7_1 : Int).toNat)] (fun _ => True) (fun _ => False) rfl rfl ?aP (fun _ hk => hk.elim) ?aF ?aO ?aB ?aS ?aL ?_; (case aP => exact rfl); (case aB => exact (by repeat (first | (with_reducible first | exact HB.out | apply below_alloc | apply pw_below_drewN | apply below_drew1) | exact HB.out))); (case aF => exact (fun _ _ => trivial)); (case aO => exact (by (with_reducible repeat (first | apply Kd.R_alloc | apply Kd.R_drewN | apply Kd.R_drew)); exact HO_5.out)); (case aS => exact (below_size (by repeat (first | (with_reducible first | exact HB.out | apply below_alloc | apply pw_below_drewN | apply below_drew1) | exact HB.out)))); (case aL => have := LMc19.out; omega); intro v264 w20 ho hb hg hat; rw [← Ny263.out] at ho; have n0_ := Aside0.mk (hb); have n1_ := Aside0.mk (ho); clear HB; clear HO_5; have HB := n0_; have HO265 := n1_; clear n0_ n1_; clear ho hb hg hat))
                      go_roundg k1
                      case measure => have := HK1.out; omega
                      case rel => exact ⟨(y263), (wrap64 (x7_1 + 1)), (wrap64 (x7_1 + 1)), (by first | rfl | (simp; done) | (simp [*]; done)), (by first | rfl | (simp; done) | (simp [*]; done)), H', ⟨by have := HK1.out; omega⟩, ⟨by (with_reducible repeat (first | apply Kd.R_alloc | apply Kd.R_drewN | apply Kd.R_drew)); exact HO265.out⟩, ⟨by repeat (first | (with_reducible first | exact HB.out | apply below_alloc | apply pw_below_drewN | apply below_drew1) | exact HB.out)⟩⟩
                    · rw [if_neg c19] at H
                      exact absurd H (by simp)
                  · rw [if_neg c17] at H
                    exact absurd H (by simp)
                · rw [if_neg c16] at H
                  exact absurd H (by simp)
              · rw [if_neg c15] at H
                have c15b0 : ((bt a0 x7_1) == a1) = false := beq_eq_false_iff_ne.mpr c15
                have c15b1 : ((bt a0 x7_1) != a1) = true := bne_iff_ne.mpr c15
                have H' := Aside0.mk H
                clear H
                have p14 : 0 ≤ (x7_1 : Int) := of_decide_eq_true (by first | (with_reducible assumption) | assumption)
                have q14 : x7_1 < (a0.size : Int) := of_decide_eq_true (by first | (with_reducible assumption) | assumption)
                have hx14 := bt_at a0 x7_1
                replace p14 := eq_true p14
                replace q14 := eq_true q14
                go_wp2
                go_roundg k1
                case measure => have := HK1.out; omega
                case rel => exact ⟨(x5_1), (x6_1), (wrap64 (x7_1 + 1)), (by first | rfl | (simp; done) | (simp [*]; done)), (by first | rfl | (simp; done) | (simp [*]; done)), H', ⟨by have := HK1.out; omega⟩, ⟨by (with_reducible repeat (first | apply Kd.R_alloc | apply Kd.R_drewN | apply Kd.R_drew)); exact HO_5.out⟩, ⟨by repeat (first | (with_reducible first | exact HB.out | apply below_alloc | apply pw_below_drewN | apply below_drew1) | exact HB.out)⟩⟩
            · rw [if_neg c13] at H
              exact absurd H (by simp)
          · rw [if_neg c12] at H
            exact absurd H (by simp)
      · rw [if_neg c5] at H
        have c5b0 : decide (x7_1 ≤ (a0.size : Int)) = false := decide_eq_false c5
        clear c5
        obtain rfl := Option.some.inj H
        go_wp2
        go_ret
        exact ⟨_, by first | rfl | (simp [errW_none, errW_some] <;> rfl) | (simp [*, errW_none, errW_some] <;> rfl), by (with_reducible repeat (first | apply Kd.R_alloc | apply Kd.R_drewN | apply Kd.R_drew)); exact HO_5.out, by repeat (first | (with_reducible first | exact HB.out | apply below_alloc | apply pw_below_drewN | apply below_drew1) | exact HB.out)⟩

end Go.Proofs.YtndjeclnadpifaaDoor.PFnAngleTexts
