-- The machine's side of the law FnExactReadAngle: functions and their walks, made by q.py out of the kit's own print.
import Derived.Test.YtjheehbejehlaaaDoorQFnExactReadAnglex0
import Derived.Test.YtjheehbejehlaaaDoorQFnExactReadAnglex3
import Derived.Test.YtjheehbejehlaaaDoorQFnExactReadAnglex6
namespace Go.Proofs.YtjheehbejehlaaaDoor.PFnExactReadAngle
open Go.RowKit Go.Proofs.YtjheehbejehlaaaDoorW.PrintWords Go.Proofs.YtjheehbejehlaaaDoorW.PrintLast Go.Proofs.YtjheehbejehlaaaDoorW.PrintMore
attribute [local go_sem] max2_int min2_int max_two min_two max_three min_three max_four min_four   -- for this text's walks alone
set_option linter.unusedVariables false
set_option linter.unusedSimpArgs false

-- NOT PRINTED: function 88 (strconv_ParseUint)

-- NOT PRINTED: function 73 (strconv_ParseInt_73)

-- NOT PRINTED: function 107 (stringslite_Clone)

-- NOT PRINTED: function 89 (strconv_syntaxError)

-- NOT PRINTED: function 90 (strconv_rangeError)

-- NOT PRINTED: function 108 (errors_New)

-- NOT PRINTED: function 113 (strconv_Itoa_113)

-- NOT PRINTED: function 109 (strconv_Itoa_109)

-- NOT PRINTED: function 91 (strconv_baseError)

-- NOT PRINTED: function 92 (strconv_bitSizeError)

-- NOT PRINTED: function 74 (strconv_toError)

-- NOT PRINTED: function 64 (strconv_ParseInt_64)

/-! ### impl_readDecimal: function 46 -/
-- TAB
def impl_readDecimal.f (k : Nat) (s : ByteArray) : Option (Int × Bool) := if s.size > 19 then (some (0, false)) else (match Lib.parseIntB 64 s.data.toList with | .ok v => (impl_decimal.f k v).bind fun t => some (v, t.toList == s.toList) | .range => some (Lib.intSat 64 s.data.toList, false) | _ => some (0, false))
theorem impl_readDecimal.mono : ∀ a0 k, LeO (impl_readDecimal.f k a0) (impl_readDecimal.f (k + 1) a0) := fun _ _ => LeO.refl _
theorem readDec_below {w W w9 : World} (hb : Below w.heap.size w W) (h : w9 = W ∨ ∃ t, w9 = Lib.bytesWorld W 5 t) : Below w.heap.size w w9 := by
  rcases h with rfl | ⟨t, rfl⟩
  · exact hb
  · exact Below.trans hb (Joins.below_bytesWorld _ _ _ _ hb.size)
set_option maxHeartbeats 8000000 in
set_option maxRecDepth 100000 in
theorem impl_readDecimal.calls (k : Nat) (a0 : ByteArray) (r1 : Int) (r2 : Bool) (w : World) (h : impl_readDecimal.f k a0 = some (r1, r2)) (hT : Aside0 (TabAt w)) :
    Calls Tryd.prog 46 #[.string a0] w fun e w' => e = .returned (.tuple #[.int .i64 r1, .bool r2]) ∧ Below w.heap.size w w' := by
  have HB := Aside0.mk (Below.refl w.heap.size w)
  obtain ⟨t2, p2, hs⟩ := hT.out.syn
  obtain ⟨t3, p3, hr⟩ := hT.out.ran
  have HS := Aside0.mk hs
  have HR := Aside0.mk hr
  clear hs hr
  unfold impl_readDecimal.f at h
  by_cases c : a0.size > 19
  · rw [if_pos c] at h
    have c1 : decide (19 < (a0.size : Int)) = true := decide_eq_true (by omega)
    simp only [Option.some.injEq, Prod.mk.injEq] at h
    obtain ⟨rfl, rfl⟩ := h
    go_enter Tryd.func46, Tryd.ntmps46
    go_wp2
    go_ret2
    exact ⟨rfl, HB.out⟩
  · rw [if_neg c] at h
    have c1 : decide (19 < (a0.size : Int)) = false := decide_eq_false (by omega)
    cases hp : Lib.parseIntB 64 a0.data.toList
    · rename_i v
      have HP := Aside0.mk hp
      rw [hp] at h
      replace h := Option.bind_eq_some_iff.mp h
      obtain ⟨t, A0, h⟩ := h
      have A := Aside0.mk A0
      clear A0 hp
      simp only [Option.some.injEq, Prod.mk.injEq] at h
      obtain ⟨rfl, rfl⟩ := h
      go_enter Tryd.func46, Tryd.ntmps46
      go_wp2_with (first
        | (go_at_call 64; refine (Tryd.strconv_ParseInt_10_at64_ok a0 (by omega) v HP.out _).mono ?_; rintro e w9 ⟨rfl, hw9⟩; have HB9 : Aside0 (Below w.heap.size w w9) := ⟨readDec_below HB.out hw9⟩; clear hw9 HB; have HB := HB9; clear HB9)
        | (go_at_call 31; refine (impl_decimal.calls k v t _ A.out (tabAt_on hT (by repeat (first | (with_reducible first | exact HB.out | apply below_alloc | apply pw_below_drewN | apply below_drew1) | exact HB.out)))).mono ?_; rintro e w8 ⟨rfl, hb8⟩; have HB8 := below_step HB.out hb8; clear HB; have HB := Aside0.mk HB8; clear HB8))
      go_ret2
      exact ⟨rfl, HB.out⟩
    · skip
      have HP := Aside0.mk hp
      rw [hp] at h
      clear hp
      simp only [Option.some.injEq, Prod.mk.injEq] at h
      obtain ⟨rfl, rfl⟩ := h
      go_enter Tryd.func46, Tryd.ntmps46
      go_wp2_with (first
        | (go_at_call 64; refine (Tryd.strconv_ParseInt_10_at64_syntax a0 (by omega) _ HP.out (fun _ e => by cases e) (fun e => by cases e) _ _ HS.out (.inr ⟨_, _, rfl⟩)).mono ?_; rintro e w9 ⟨N, rfl, hN, hN2, hb9⟩; have HB9 := below_step HB.out hb9; clear HB hb9; have HB := Aside0.mk HB9; clear HB9))
      go_ret2
      exact ⟨rfl, HB.out⟩
    · skip
      have HP := Aside0.mk hp
      rw [hp] at h
      clear hp
      simp only [Option.some.injEq, Prod.mk.injEq] at h
      obtain ⟨rfl, rfl⟩ := h
      go_enter Tryd.func46, Tryd.ntmps46
      go_wp2_with (first
        | (go_at_call 64; refine (Tryd.strconv_ParseInt_10_at64_range a0 (by omega) HP.out _ _ HR.out (.inr ⟨_, _, rfl⟩)).mono ?_; rintro e w9 ⟨N, rfl, hN, hN2, hb9⟩; have HB9 := below_step HB.out hb9; clear HB hb9; have HB := Aside0.mk HB9; clear HB9))
      go_ret2
      exact ⟨rfl, HB.out⟩

/-! ### impl_ReadAngle: function 23 -/
-- TAB
theorem cutp_calls (s P : ByteArray) (neg : Bool) (w : World) (hP : (⟨(Lib.trimPrefix s.data.toList [45]).toArray⟩ : ByteArray) = P) (hn : Lib.hasPrefix s.data.toList [45] = neg) :
    Calls Tryd.prog 44 #[.string s, .string ⟨#[45]⟩] w fun e w' => e = .returned (.tuple #[.string P, .bool neg]) ∧ w' = w := by
  subst hP; subst hn
  exact Tryd.strings_CutPrefix s ⟨#[45]⟩ w
theorem cut_calls (P D R : ByteArray) (b : Bool) (w : World) (hs : P.size < 4294967281) (hD : (⟨(Lib.cut P.data.toList [100]).1.toArray⟩ : ByteArray) = D) (hR : (⟨(Lib.cut P.data.toList [100]).2.1.toArray⟩ : ByteArray) = R) (hb : (Lib.cut P.data.toList [100]).2.2 = b) (hT : Aside0 (TabAt w)) :
    Calls Tryd.prog 45 #[.string P, .string ⟨#[100]⟩] w fun e w' => e = .returned (.tuple #[.string D, .string R, .bool b]) ∧ Below w.heap.size w w' := by
  subst hD; subst hR; subst hb
  obtain ⟨m, hm⟩ := hT.out.most
  refine (Tryd.strings_Cut P ⟨#[100]⟩ m w hs hm).mono ?_
  rintro e w' ⟨rfl, n, rfl⟩
  exact ⟨rfl, pw_below_drewN (Below.refl _ _) n⟩
theorem drewN_cell {w : World} {n : Nat} {a : Addr} {v : Value} (h : w.cell? a = some v) : (w.drewN n).cell? a = some v := h
set_option maxHeartbeats 8000000 in
set_option maxRecDepth 100000 in
theorem impl_digit.calls (R : ByteArray) (i : Int) (g : Nat) (w : World) (h0 : 0 ≤ i) (h1 : i < (R.size : Int)) (hc : w.cell? ⟨g, 0, none⟩ = some (.string R)) :
    Calls Tryd.prog 47 #[.int .i64 i, .pointer (some ⟨g, 0, none⟩)] w fun e w' => e = .returned (.int .i64 (wrap64 (wrap64 (bt R i) - 48))) ∧ Drawn0 w w' := by
  have hx := bt_at R i
  have p := eq_true h0
  have q := eq_true h1
  have q2 := eq_true (show i.toNat < R.size by omega)
  clear h0 h1
  go_enter Tryd.func47, Tryd.ntmps47
  go_wp2
  go_ret
  exact ⟨by first | rfl | (simp [go_sem]; done), by repeat (first | exact Drawn0.refl _ | apply Drawn0.step)⟩
def impl_ReadAngle.v (d : Int) (R : ByteArray) : Int := wrap64 (wrap64 (wrap64 (wrap64 (d * 3600) + wrap64 (wrap64 (wrap64 (10 * wrap64 (wrap64 (bt R 0) - 48)) + wrap64 (wrap64 (bt R 1) - 48)) * 60)) + wrap64 (10 * wrap64 (wrap64 (bt R 3) - 48))) + wrap64 (wrap64 (bt R 4) - 48))
def impl_ReadAngle.t (k : Nat) (s : ByteArray) (a : Int) : Option (Int × Int) := (impl_AngleText.f k a).bind fun t => if t.2 = 0 then (if t.1.toList = s.toList then (some (a, 0)) else (some (0, 6))) else (some (0, 6))
def impl_ReadAngle.p (k : Nat) (s D R : ByteArray) (neg : Bool) : Option (Int × Int) := (impl_readDecimal.f k D).bind fun d => (if d.2 = true then ((impl_in.f d.1 0 360).bind fun r => (if r = true then (if (R.size : Int) = 6 then (if neg = true then (impl_ReadAngle.t k s (wrap64 (-(impl_ReadAngle.v d.1 R)))) else (impl_ReadAngle.t k s (impl_ReadAngle.v d.1 R))) else (some (0, 6))) else (some (0, 6)))) else (some (0, 6)))
def impl_ReadAngle.f (k : Nat) (s : ByteArray) : Option (Int × Int) := if s.size < 4294967281 then (impl_ReadAngle.p k s ⟨(Lib.cut (Lib.trimPrefix s.data.toList [45]) [100]).1.toArray⟩ ⟨(Lib.cut (Lib.trimPrefix s.data.toList [45]) [100]).2.1.toArray⟩ (Lib.hasPrefix s.data.toList [45])) else none
theorem impl_ReadAngle.mono : ∀ a0 k, LeO (impl_ReadAngle.f k a0) (impl_ReadAngle.f (k + 1) a0) := by
  intro a0 k
  unfold impl_ReadAngle.f impl_ReadAngle.p impl_ReadAngle.t
  repeat' first
      | (with_reducible exact impl_readDecimal.mono _ _)
      | (with_reducible exact impl_AngleText.mono _ _)
      | (with_reducible exact LeO.refl _)
      | (with_reducible refine LeO.ite ?_ ?_)
      | (with_reducible refine LeO.bind ?_ (fun _ => ?_))
set_option maxHeartbeats 8000000 in
set_option maxRecDepth 100000 in
theorem impl_ReadAngle.calls_p (k : Nat) (s P D R : ByteArray) (neg b : Bool) (r1 r2 : Int) (w : World) (h : impl_ReadAngle.p k s D R neg = some (r1, r2)) (hs : P.size < 4294967281)
    (hP : (⟨(Lib.trimPrefix s.data.toList [45]).toArray⟩ : ByteArray) = P) (hn : Lib.hasPrefix s.data.toList [45] = neg) (hD : (⟨(Lib.cut P.data.toList [100]).1.toArray⟩ : ByteArray) = D) (hR : (⟨(Lib.cut P.data.toList [100]).2.1.toArray⟩ : ByteArray) = R) (hb : (Lib.cut P.data.toList [100]).2.2 = b) (hT : Aside0 (TabAt w)) :
    Calls Tryd.prog 23 #[.string s] w fun e w' => e = .returned (.tuple #[.int .i64 r1, .int .i64 r2]) ∧ Below w.heap.size w w' := by
  have hmf : ∀ (fn : Fn) (first cap : Array Value) (w : World), (Instr.makeFunc fn first cap).run Tryd.prog w = .ok (.func fn first cap) w := fun _ _ _ _ => rfl
  have HB := Aside0.mk (Below.refl w.heap.size w)
  have HS := Aside0.mk hs
  have HP := Aside0.mk hP
  have HN := Aside0.mk hn
  have HD := Aside0.mk hD
  have HR := Aside0.mk hR
  have HC := Aside0.mk hb
  have H := h
  clear h hs hP hn hD hR hb
  unfold impl_ReadAngle.p at H
  replace H := Option.bind_eq_some_iff.mp H
  obtain ⟨⟨d, ok⟩, A10, H⟩ := H
  have A1 := Aside0.mk A10
  clear A10
  by_cases c1 : ok = true
  · subst c1
    rw [if_pos rfl] at H
    replace H := Option.bind_eq_some_iff.mp H
    obtain ⟨inr, A20, H⟩ := H
    have A2 := Aside0.mk A20
    clear A20
    by_cases c2 : inr = true
    · subst c2
      rw [if_pos rfl] at H
      by_cases c3 : (R.size : Int) = 6
      · rw [if_pos c3] at H
        have c3b : ((R.size : Int) == 6) = true := beq_iff_eq.mpr c3
        have c3c : ((R.size : Int) != 6) = false := bne_eq_false_iff_eq.mpr c3
        have p0 : (0 : Int) < (R.size : Int) := by omega
        have p1 : (1 : Int) < (R.size : Int) := by omega
        have p3 : (3 : Int) < (R.size : Int) := by omega
        have p4 : (4 : Int) < (R.size : Int) := by omega
        have HQ := Aside0.mk (And.intro p0 (And.intro p1 (And.intro p3 p4)))
        clear p0 p1 p3 p4 c3
        by_cases c4 : neg = true
        · skip
          subst c4
          rw [if_pos rfl] at H
          unfold impl_ReadAngle.t impl_ReadAngle.v at H
          replace H := Option.bind_eq_some_iff.mp H
          obtain ⟨⟨t, code⟩, A30, H⟩ := H
          have A3 := Aside0.mk A30
          clear A30
          have HH := Aside0.mk H
          clear H
          go_enter Tryd.func23, Tryd.ntmps23
          go_wp2_with (first | ((with_reducible refine gate_callee (f := 44) rfl ?_); refine goesL_ (some 16) rfl rfl Tryd.func44 (by kernel_rfl) rfl #[.string s, .string ⟨#[45]⟩] rfl (by (try simp only [List.map_toArray, List.map_cons, List.map_nil]); first | done | rfl) ?_; (with_reducible refine (cutp_calls s P _ _ HP.out HN.out).mono ?_); rintro e w2 ⟨rfl, rfl⟩; refine ⟨_, rfl, ?_⟩) | ((with_reducible refine gate_callee (f := 45) rfl ?_); refine goesL_ (some 21) rfl rfl Tryd.func45 (by kernel_rfl) rfl #[.string P, .string ⟨#[100]⟩] rfl (by (try simp only [List.map_toArray, List.map_cons, List.map_nil]); first | done | rfl) ?_; (with_reducible refine (cut_calls P D R b _ HS.out HD.out HR.out HC.out (tabAt_on hT (by repeat (first | (with_reducible first | exact HB.out | apply below_alloc | apply pw_below_drewN | apply below_drew1 | refine below_set ?_ (Nat.le_refl _)) | exact HB.out)))).mono ?_); rintro e w5 ⟨rfl, hb5⟩; refine ⟨_, rfl, ?_⟩; have n0_ := Aside0.mk (below_step (by repeat (first | (with_reducible first | exact HB.out | apply below_alloc | apply pw_below_drewN | apply below_drew1 | refine below_set ?_ (Nat.le_refl _)) | exact HB.out)) hb5); have n1_ := Aside0.mk (blk_below (g := w2.heap.size) (o := .cells #[.string P] 9 (0, 0)) (blk_new _ _) hb5); clear HB hb5; have HB := n0_; have BK := n1_; clear n0_ n1_; have hz : w5.cell? ⟨w2.heap.size, 0, none⟩ = some (.string P) := (blk_cell BK.out 0).trans rfl; have hf := blk_frozen BK.out 0) | ((with_reducible refine gate_callee (f := 46) rfl ?_); refine goesL_ (some 27) rfl rfl Tryd.func46 (by kernel_rfl) rfl #[.string D] rfl (by (try simp only [List.map_toArray, List.map_cons, List.map_nil]); first | done | rfl) ?_; (with_reducible refine (impl_readDecimal.calls k D d _ _ A1.out (tabAt_on hT (by repeat (first | (with_reducible first | exact HB.out | apply below_alloc | apply pw_below_drewN | apply below_drew1 | refine below_set ?_ (Nat.le_refl _)) | exact HB.out)))).mono ?_); rintro e w6 ⟨rfl, hb6⟩; refine ⟨_, rfl, ?_⟩; have n0_ := Aside0.mk (below_step (by repeat (first | (with_reducible first | exact HB.out | apply below_alloc | apply pw_below_drewN | apply below_drew1 | refine below_set ?_ (Nat.le_refl _)) | exact HB.out)) hb6); have n1_ := Aside0.mk (blk_below (g := w2.heap.size) (o := .cells #[.string R] 9 (0, 0)) (by (with_reducible repeat (first | refine blk_drewN ?_ _ | refine blk_drew ?_ | refine blk_alloc ?_ _)); refine blk_put (cs := #[.string P]) ?_ 0 _ rfl; (with_reducible repeat (first | refine blk_drewN ?_ _ | refine blk_drew ?_ | refine blk_alloc ?_ _)); exact BK.out) hb6); clear HB BK hb6 hz hf; have HB := n0_; have BK := n1_; clear n0_ n1_; have hz : w6.cell? ⟨w2.heap.size, 0, none⟩ = some (.string R) := (blk_cell BK.out 0).trans rfl) | (go_at_call 29; (with_reducible refine (impl_in.calls d 0 360 _ _ A2.out).mono ?_); rintro e w' ⟨rfl, ⟨nd, rfl⟩⟩) | (go_at_call 47; (with_reducible refine (impl_digit.calls R 0 w2.heap.size _ (by omega) HQ.out.1 (by repeat (first | exact hz | apply drewN_cell))).mono ?_); rintro e w' ⟨rfl, ⟨nd, rfl⟩⟩) | (go_at_call 47; (with_reducible refine (impl_digit.calls R 1 w2.heap.size _ (by omega) HQ.out.2.1 (by repeat (first | exact hz | apply drewN_cell))).mono ?_); rintro e w' ⟨rfl, ⟨nd, rfl⟩⟩) | (go_at_call 47; (with_reducible refine (impl_digit.calls R 3 w2.heap.size _ (by omega) HQ.out.2.2.1 (by repeat (first | exact hz | apply drewN_cell))).mono ?_); rintro e w' ⟨rfl, ⟨nd, rfl⟩⟩) | (go_at_call 47; (with_reducible refine (impl_digit.calls R 4 w2.heap.size _ (by omega) HQ.out.2.2.2 (by repeat (first | exact hz | apply drewN_cell))).mono ?_); rintro e w' ⟨rfl, ⟨nd, rfl⟩⟩))
          refine (impl_AngleText.calls k _ t code _ A3.out (tabAt_on hT (by repeat (first | (with_reducible first | exact HB.out | apply below_alloc | apply pw_below_drewN | apply below_drew1 | refine below_set ?_ (Nat.le_refl _)) | exact HB.out)))).mono ?_
          rintro e w9 ⟨rfl, hb9⟩
          have HB9 := below_step (by repeat (first | (with_reducible first | exact HB.out | apply below_alloc | apply pw_below_drewN | apply below_drew1 | refine below_set ?_ (Nat.le_refl _)) | exact HB.out)) hb9
          clear HB hb9
          have HB := Aside0.mk HB9
          clear HB9
          have H := HH.out
          clear HH
          by_cases c6 : code = 0
          · rw [if_pos c6] at H
            have c6b : (code == 0) = true := beq_iff_eq.mpr c6
            have c6c : (code != 0) = false := bne_eq_false_iff_eq.mpr c6
            clear c6
            by_cases c7 : t.toList = s.toList
            · rw [if_pos c7] at H
              have c7b : (t.toList == s.toList) = true := beq_iff_eq.mpr c7
              have c7c : (t.toList != s.toList) = false := bne_eq_false_iff_eq.mpr c7
              clear c7
              simp only [Option.some.injEq, Prod.mk.injEq] at H
              obtain ⟨rfl, rfl⟩ := H
              go_wp2
              go_ret2
              exact ⟨by first | rfl | (simp; done) | (simp [*]; done), by repeat (first | (with_reducible first | exact HB.out | apply below_alloc | apply pw_below_drewN | apply below_drew1 | refine below_set ?_ (Nat.le_refl _)) | exact HB.out)⟩
            · rw [if_neg c7] at H
              have c7b : (t.toList == s.toList) = false := beq_eq_false_iff_ne.mpr c7
              have c7c : (t.toList != s.toList) = true := bne_iff_ne.mpr c7
              clear c7
              simp only [Option.some.injEq, Prod.mk.injEq] at H
              obtain ⟨rfl, rfl⟩ := H
              go_wp2
              go_ret2
              exact ⟨by first | rfl | (simp; done) | (simp [*]; done), by repeat (first | (with_reducible first | exact HB.out | apply below_alloc | apply pw_below_drewN | apply below_drew1 | refine below_set ?_ (Nat.le_refl _)) | exact HB.out)⟩
          · rw [if_neg c6] at H
            have c6b : (code == 0) = false := beq_eq_false_iff_ne.mpr c6
            have c6c : (code != 0) = true := bne_iff_ne.mpr c6
            clear c6
            simp only [Option.some.injEq, Prod.mk.injEq] at H
            obtain ⟨rfl, rfl⟩ := H
            go_wp2
            go_ret2
            exact ⟨by first | rfl | (simp; done) | (simp [*]; done), by repeat (first | (with_reducible first | exact HB.out | apply below_alloc | apply pw_below_drewN | apply below_drew1 | refine below_set ?_ (Nat.le_refl _)) | exact HB.out)⟩
        · replace c4 := Bool.eq_false_iff.mpr c4
          subst c4
          rw [if_neg (by simp)] at H
          unfold impl_ReadAngle.t impl_ReadAngle.v at H
          replace H := Option.bind_eq_some_iff.mp H
          obtain ⟨⟨t, code⟩, A30, H⟩ := H
          have A3 := Aside0.mk A30
          clear A30
          have HH := Aside0.mk H
          clear H
          go_enter Tryd.func23, Tryd.ntmps23
          go_wp2_with (first | ((with_reducible refine gate_callee (f := 44) rfl ?_); refine goesL_ (some 16) rfl rfl Tryd.func44 (by kernel_rfl) rfl #[.string s, .string ⟨#[45]⟩] rfl (by (try simp only [List.map_toArray, List.map_cons, List.map_nil]); first | done | rfl) ?_; (with_reducible refine (cutp_calls s P _ _ HP.out HN.out).mono ?_); rintro e w2 ⟨rfl, rfl⟩; refine ⟨_, rfl, ?_⟩) | ((with_reducible refine gate_callee (f := 45) rfl ?_); refine goesL_ (some 21) rfl rfl Tryd.func45 (by kernel_rfl) rfl #[.string P, .string ⟨#[100]⟩] rfl (by (try simp only [List.map_toArray, List.map_cons, List.map_nil]); first | done | rfl) ?_; (with_reducible refine (cut_calls P D R b _ HS.out HD.out HR.out HC.out (tabAt_on hT (by repeat (first | (with_reducible first | exact HB.out | apply below_alloc | apply pw_below_drewN | apply below_drew1 | refine below_set ?_ (Nat.le_refl _)) | exact HB.out)))).mono ?_); rintro e w5 ⟨rfl, hb5⟩; refine ⟨_, rfl, ?_⟩; have n0_ := Aside0.mk (below_step (by repeat (first | (with_reducible first | exact HB.out | apply below_alloc | apply pw_below_drewN | apply below_drew1 | refine below_set ?_ (Nat.le_refl _)) | exact HB.out)) hb5); have n1_ := Aside0.mk (blk_below (g := w2.heap.size) (o := .cells #[.string P] 9 (0, 0)) (blk_new _ _) hb5); clear HB hb5; have HB := n0_; have BK := n1_; clear n0_ n1_; have hz : w5.cell? ⟨w2.heap.size, 0, none⟩ = some (.string P) := (blk_cell BK.out 0).trans rfl; have hf := blk_frozen BK.out 0) | ((with_reducible refine gate_callee (f := 46) rfl ?_); refine goesL_ (some 27) rfl rfl Tryd.func46 (by kernel_rfl) rfl #[.string D] rfl (by (try simp only [List.map_toArray, List.map_cons, List.map_nil]); first | done | rfl) ?_; (with_reducible refine (impl_readDecimal.calls k D d _ _ A1.out (tabAt_on hT (by repeat (first | (with_reducible first | exact HB.out | apply below_alloc | apply pw_below_drewN | apply below_drew1 | refine below_set ?_ (Nat.le_refl _)) | exact HB.out)))).mono ?_); rintro e w6 ⟨rfl, hb6⟩; refine ⟨_, rfl, ?_⟩; have n0_ := Aside0.mk (below_step (by repeat (first | (with_reducible first | exact HB.out | apply below_alloc | apply pw_below_drewN | apply below_drew1 | refine below_set ?_ (Nat.le_refl _)) | exact HB.out)) hb6); have n1_ := Aside0.mk (blk_below (g := w2.heap.size) (o := .cells #[.string R] 9 (0, 0)) (by (with_reducible repeat (first | refine blk_drewN ?_ _ | refine blk_drew ?_ | refine blk_alloc ?_ _)); refine blk_put (cs := #[.string P]) ?_ 0 _ rfl; (with_reducible repeat (first | refine blk_drewN ?_ _ | refine blk_drew ?_ | refine blk_alloc ?_ _)); exact BK.out) hb6); clear HB BK hb6 hz hf; have HB := n0_; have BK := n1_; clear n0_ n1_; have hz : w6.cell? ⟨w2.heap.size, 0, none⟩ = some (.string R) := (blk_cell BK.out 0).trans rfl) | (go_at_call 29; (with_reducible refine (impl_in.calls d 0 360 _ _ A2.out).mono ?_); rintro e w' ⟨rfl, ⟨nd, rfl⟩⟩) | (go_at_call 47; (with_reducible refine (impl_digit.calls R 0 w2.heap.size _ (by omega) HQ.out.1 (by repeat (first | exact hz | apply drewN_cell))).mono ?_); rintro e w' ⟨rfl, ⟨nd, rfl⟩⟩) | (go_at_call 47; (with_reducible refine (impl_digit.calls R 1 w2.heap.size _ (by omega) HQ.out.2.1 (by repeat (first | exact hz | apply drewN_cell))).mono ?_); rintro e w' ⟨rfl, ⟨nd, rfl⟩⟩) | (go_at_call 47; (with_reducible refine (impl_digit.calls R 3 w2.heap.size _ (by omega) HQ.out.2.2.1 (by repeat (first | exact hz | apply drewN_cell))).mono ?_); rintro e w' ⟨rfl, ⟨nd, rfl⟩⟩) | (go_at_call 47; (with_reducible refine (impl_digit.calls R 4 w2.heap.size _ (by omega) HQ.out.2.2.2 (by repeat (first | exact hz | apply drewN_cell))).mono ?_); rintro e w' ⟨rfl, ⟨nd, rfl⟩⟩))
          refine (impl_AngleText.calls k _ t code _ A3.out (tabAt_on hT (by repeat (first | (with_reducible first | exact HB.out | apply below_alloc | apply pw_below_drewN | apply below_drew1 | refine below_set ?_ (Nat.le_refl _)) | exact HB.out)))).mono ?_
          rintro e w9 ⟨rfl, hb9⟩
          have HB9 := below_step (by repeat (first | (with_reducible first | exact HB.out | apply below_alloc | apply pw_below_drewN | apply below_drew1 | refine below_set ?_ (Nat.le_refl _)) | exact HB.out)) hb9
          clear HB hb9
          have HB := Aside0.mk HB9
          clear HB9
          have H := HH.out
          clear HH
          by_cases c6 : code = 0
          · rw [if_pos c6] at H
            have c6b : (code == 0) = true := beq_iff_eq.mpr c6
            have c6c : (code != 0) = false := bne_eq_false_iff_eq.mpr c6
            clear c6
            by_cases c7 : t.toList = s.toList
            · rw [if_pos c7] at H
              have c7b : (t.toList == s.toList) = true := beq_iff_eq.mpr c7
              have c7c : (t.toList != s.toList) = false := bne_eq_false_iff_eq.mpr c7
              clear c7
              simp only [Option.some.injEq, Prod.mk.injEq] at H
              obtain ⟨rfl, rfl⟩ := H
              go_wp2
              go_ret2
              exact ⟨by first | rfl | (simp; done) | (simp [*]; done), by repeat (first | (with_reducible first | exact HB.out | apply below_alloc | apply pw_below_drewN | apply below_drew1 | refine below_set ?_ (Nat.le_refl _)) | exact HB.out)⟩
            · rw [if_neg c7] at H
              have c7b : (t.toList == s.toList) = false := beq_eq_false_iff_ne.mpr c7
              have c7c : (t.toList != s.toList) = true := bne_iff_ne.mpr c7
              clear c7
              simp only [Option.some.injEq, Prod.mk.injEq] at H
              obtain ⟨rfl, rfl⟩ := H
              go_wp2
              go_ret2
              exact ⟨by first | rfl | (simp; done) | (simp [*]; done), by repeat (first | (with_reducible first | exact HB.out | apply below_alloc | apply pw_below_drewN | apply below_drew1 | refine below_set ?_ (Nat.le_refl _)) | exact HB.out)⟩
          · rw [if_neg c6] at H
            have c6b : (code == 0) = false := beq_eq_false_iff_ne.mpr c6
            have c6c : (code != 0) = true := bne_iff_ne.mpr c6
            clear c6
            simp only [Option.some.injEq, Prod.mk.injEq] at H
            obtain ⟨rfl, rfl⟩ := H
            go_wp2
            go_ret2
            exact ⟨by first | rfl | (simp; done) | (simp [*]; done), by repeat (first | (with_reducible first | exact HB.out | apply below_alloc | apply pw_below_drewN | apply below_drew1 | refine below_set ?_ (Nat.le_refl _)) | exact HB.out)⟩
      · rw [if_neg c3] at H
        have c3b : ((R.size : Int) == 6) = false := beq_eq_false_iff_ne.mpr c3
        have c3c : ((R.size : Int) != 6) = true := bne_iff_ne.mpr c3
        clear c3
        simp only [Option.some.injEq, Prod.mk.injEq] at H
        obtain ⟨rfl, rfl⟩ := H
        go_enter Tryd.func23, Tryd.ntmps23
        go_wp2_with (first | ((with_reducible refine gate_callee (f := 44) rfl ?_); refine goesL_ (some 16) rfl rfl Tryd.func44 (by kernel_rfl) rfl #[.string s, .string ⟨#[45]⟩] rfl (by (try simp only [List.map_toArray, List.map_cons, List.map_nil]); first | done | rfl) ?_; (with_reducible refine (cutp_calls s P _ _ HP.out HN.out).mono ?_); rintro e w2 ⟨rfl, rfl⟩; refine ⟨_, rfl, ?_⟩) | ((with_reducible refine gate_callee (f := 45) rfl ?_); refine goesL_ (some 21) rfl rfl Tryd.func45 (by kernel_rfl) rfl #[.string P, .string ⟨#[100]⟩] rfl (by (try simp only [List.map_toArray, List.map_cons, List.map_nil]); first | done | rfl) ?_; (with_reducible refine (cut_calls P D R b _ HS.out HD.out HR.out HC.out (tabAt_on hT (by repeat (first | (with_reducible first | exact HB.out | apply below_alloc | apply pw_below_drewN | apply below_drew1 | refine below_set ?_ (Nat.le_refl _)) | exact HB.out)))).mono ?_); rintro e w5 ⟨rfl, hb5⟩; refine ⟨_, rfl, ?_⟩; have n0_ := Aside0.mk (below_step (by repeat (first | (with_reducible first | exact HB.out | apply below_alloc | apply pw_below_drewN | apply below_drew1 | refine below_set ?_ (Nat.le_refl _)) | exact HB.out)) hb5); have n1_ := Aside0.mk (blk_below (g := w2.heap.size) (o := .cells #[.string P] 9 (0, 0)) (blk_new _ _) hb5); clear HB hb5; have HB := n0_; have BK := n1_; clear n0_ n1_; have hz : w5.cell? ⟨w2.heap.size, 0, none⟩ = some (.string P) := (blk_cell BK.out 0).trans rfl; have hf := blk_frozen BK.out 0) | ((with_reducible refine gate_callee (f := 46) rfl ?_); refine goesL_ (some 27) rfl rfl Tryd.func46 (by kernel_rfl) rfl #[.string D] rfl (by (try simp only [List.map_toArray, List.map_cons, List.map_nil]); first | done | rfl) ?_; (with_reducible refine (impl_readDecimal.calls k D d _ _ A1.out (tabAt_on hT (by repeat (first | (with_reducible first | exact HB.out | apply below_alloc | apply pw_below_drewN | apply below_drew1 | refine below_set ?_ (Nat.le_refl _)) | exact HB.out)))).mono ?_); rintro e w6 ⟨rfl, hb6⟩; refine ⟨_, rfl, ?_⟩; have n0_ := Aside0.mk (below_step (by repeat (first | (with_reducible first | exact HB.out | apply below_alloc | apply pw_below_drewN | apply below_drew1 | refine below_set ?_ (Nat.le_refl _)) | exact HB.out)) hb6); have n1_ := Aside0.mk (blk_below (g := w2.heap.size) (o := .cells #[.string R] 9 (0, 0)) (by (with_reducible repeat (first | refine blk_drewN ?_ _ | refine blk_drew ?_ | refine blk_alloc ?_ _)); refine blk_put (cs := #[.string P]) ?_ 0 _ rfl; (with_reducible repeat (first | refine blk_drewN ?_ _ | refine blk_drew ?_ | refine blk_alloc ?_ _)); exact BK.out) hb6); clear HB BK hb6 hz hf; have HB := n0_; have BK := n1_; clear n0_ n1_; have hz : w6.cell? ⟨w2.heap.size, 0, none⟩ = some (.string R) := (blk_cell BK.out 0).trans rfl) | (go_at_call 29; (with_reducible refine (impl_in.calls d 0 360 _ _ A2.out).mono ?_); rintro e w' ⟨rfl, ⟨nd, rfl⟩⟩))
        go_ret2
        exact ⟨by first | rfl | (simp; done) | (simp [*]; done), by repeat (first | (with_reducible first | exact HB.out | apply below_alloc | apply pw_below_drewN | apply below_drew1 | refine below_set ?_ (Nat.le_refl _)) | exact HB.out)⟩
    · replace c2 := Bool.eq_false_iff.mpr c2
      subst c2
      rw [if_neg (by simp)] at H
      simp only [Option.some.injEq, Prod.mk.injEq] at H
      obtain ⟨rfl, rfl⟩ := H
      go_enter Tryd.func23, Tryd.ntmps23
      go_wp2_with (first | ((with_reducible refine gate_callee (f := 44) rfl ?_); refine goesL_ (some 16) rfl rfl Tryd.func44 (by kernel_rfl) rfl #[.string s, .string ⟨#[45]⟩] rfl (by (try simp only [List.map_toArray, List.map_cons, List.map_nil]); first | done | rfl) ?_; (with_reducible refine (cutp_calls s P _ _ HP.out HN.out).mono ?_); rintro e w2 ⟨rfl, rfl⟩; refine ⟨_, rfl, ?_⟩) | ((with_reducible refine gate_callee (f := 45) rfl ?_); refine goesL_ (some 21) rfl rfl Tryd.func45 (by kernel_rfl) rfl #[.string P, .string ⟨#[100]⟩] rfl (by (try simp only [List.map_toArray, List.map_cons, List.map_nil]); first | done | rfl) ?_; (with_reducible refine (cut_calls P D R b _ HS.out HD.out HR.out HC.out (tabAt_on hT (by repeat (first | (with_reducible first | exact HB.out | apply below_alloc | apply pw_below_drewN | apply below_drew1 | refine below_set ?_ (Nat.le_refl _)) | exact HB.out)))).mono ?_); rintro e w5 ⟨rfl, hb5⟩; refine ⟨_, rfl, ?_⟩; have n0_ := Aside0.mk (below_step (by repeat (first | (with_reducible first | exact HB.out | apply below_alloc | apply pw_below_drewN | apply below_drew1 | refine below_set ?_ (Nat.le_refl _)) | exact HB.out)) hb5); have n1_ := Aside0.mk (blk_below (g := w2.heap.size) (o := .cells #[.string P] 9 (0, 0)) (blk_new _ _) hb5); clear HB hb5; have HB := n0_; have BK := n1_; clear n0_ n1_; have hz : w5.cell? ⟨w2.heap.size, 0, none⟩ = some (.string P) := (blk_cell BK.out 0).trans rfl; have hf := blk_frozen BK.out 0) | ((with_reducible refine gate_callee (f := 46) rfl ?_); refine goesL_ (some 27) rfl rfl Tryd.func46 (by kernel_rfl) rfl #[.string D] rfl (by (try simp only [List.map_toArray, List.map_cons, List.map_nil]); first | done | rfl) ?_; (with_reducible refine (impl_readDecimal.calls k D d _ _ A1.out (tabAt_on hT (by repeat (first | (with_reducible first | exact HB.out | apply below_alloc | apply pw_below_drewN | apply below_drew1 | refine below_set ?_ (Nat.le_refl _)) | exact HB.out)))).mono ?_); rintro e w6 ⟨rfl, hb6⟩; refine ⟨_, rfl, ?_⟩; have n0_ := Aside0.mk (below_step (by repeat (first | (with_reducible first | exact HB.out | apply below_alloc | apply pw_below_drewN | apply below_drew1 | refine below_set ?_ (Nat.le_refl _)) | exact HB.out)) hb6); have n1_ := Aside0.mk (blk_below (g := w2.heap.size) (o := .cells #[.string R] 9 (0, 0)) (by (with_reducible repeat (first | refine blk_drewN ?_ _ | refine blk_drew ?_ | refine blk_alloc ?_ _)); refine blk_put (cs := #[.string P]) ?_ 0 _ rfl; (with_reducible repeat (first | refine blk_drewN ?_ _ | refine blk_drew ?_ | refine blk_alloc ?_ _)); exact BK.out) hb6); clear HB BK hb6 hz hf; have HB := n0_; have BK := n1_; clear n0_ n1_; have hz : w6.cell? ⟨w2.heap.size, 0, none⟩ = some (.string R) := (blk_cell BK.out 0).trans rfl) | (go_at_call 29; (with_reducible refine (impl_in.calls d 0 360 _ _ A2.out).mono ?_); rintro e w' ⟨rfl, ⟨nd, rfl⟩⟩))
      go_ret2
      exact ⟨by first | rfl | (simp; done) | (simp [*]; done), by repeat (first | (with_reducible first | exact HB.out | apply below_alloc | apply pw_below_drewN | apply below_drew1 | refine below_set ?_ (Nat.le_refl _)) | exact HB.out)⟩
  · replace c1 := Bool.eq_false_iff.mpr c1
    subst c1
    rw [if_neg (by simp)] at H
    simp only [Option.some.injEq, Prod.mk.injEq] at H
    obtain ⟨rfl, rfl⟩ := H
    go_enter Tryd.func23, Tryd.ntmps23
    go_wp2_with (first | ((with_reducible refine gate_callee (f := 44) rfl ?_); refine goesL_ (some 16) rfl rfl Tryd.func44 (by kernel_rfl) rfl #[.string s, .string ⟨#[45]⟩] rfl (by (try simp only [List.map_toArray, List.map_cons, List.map_nil]); first | done | rfl) ?_; (with_reducible refine (cutp_calls s P _ _ HP.out HN.out).mono ?_); rintro e w2 ⟨rfl, rfl⟩; refine ⟨_, rfl, ?_⟩) | ((with_reducible refine gate_callee (f := 45) rfl ?_); refine goesL_ (some 21) rfl rfl Tryd.func45 (by kernel_rfl) rfl #[.string P, .string ⟨#[100]⟩] rfl (by (try simp only [List.map_toArray, List.map_cons, List.map_nil]); first | done | rfl) ?_; (with_reducible refine (cut_calls P D R b _ HS.out HD.out HR.out HC.out (tabAt_on hT (by repeat (first | (with_reducible first | exact HB.out | apply below_alloc | apply pw_below_drewN | apply below_drew1 | refine below_set ?_ (Nat.le_refl _)) | exact HB.out)))).mono ?_); rintro e w5 ⟨rfl, hb5⟩; refine ⟨_, rfl, ?_⟩; have n0_ := Aside0.mk (below_step (by repeat (first | (with_reducible first | exact HB.out | apply below_alloc | apply pw_below_drewN | apply below_drew1 | refine below_set ?_ (Nat.le_refl _)) | exact HB.out)) hb5); have n1_ := Aside0.mk (blk_below (g := w2.heap.size) (o := .cells #[.string P] 9 (0, 0)) (blk_new _ _) hb5); clear HB hb5; have HB := n0_; have BK := n1_; clear n0_ n1_; have hz : w5.cell? ⟨w2.heap.size, 0, none⟩ = some (.string P) := (blk_cell BK.out 0).trans rfl; have hf := blk_frozen BK.out 0) | ((with_reducible refine gate_callee (f := 46) rfl ?_); refine goesL_ (some 27) rfl rfl Tryd.func46 (by kernel_rfl) rfl #[.string D] rfl (by (try simp only [List.map_toArray, List.map_cons, List.map_nil]); first | done | rfl) ?_; (with_reducible refine (impl_readDecimal.calls k D d _ _ A1.out (tabAt_on hT (by repeat (first | (with_reducible first | exact HB.out | apply below_alloc | apply pw_below_drewN | apply below_drew1 | refine below_set ?_ (Nat.le_refl _)) | exact HB.out)))).mono ?_); rintro e w6 ⟨rfl, hb6⟩; refine ⟨_, rfl, ?_⟩; have n0_ := Aside0.mk (below_step (by repeat (first | (with_reducible first | exact HB.out | apply below_alloc | apply pw_below_drewN | apply below_drew1 | refine below_set ?_ (Nat.le_refl _)) | exact HB.out)) hb6); have n1_ := Aside0.mk (blk_below (g := w2.heap.size) (o := .cells #[.string R] 9 (0, 0)) (by (with_reducible repeat (first | refine blk_drewN ?_ _ | refine blk_drew ?_ | refine blk_alloc ?_ _)); refine blk_put (cs := #[.string P]) ?_ 0 _ rfl; (with_reducible repeat (first | refine blk_drewN ?_ _ | refine blk_drew ?_ | refine blk_alloc ?_ _)); exact BK.out) hb6); clear HB BK hb6 hz hf; have HB := n0_; have BK := n1_; clear n0_ n1_; have hz : w6.cell? ⟨w2.heap.size, 0, none⟩ = some (.string R) := (blk_cell BK.out 0).trans rfl))
    go_ret2
    exact ⟨by first | rfl | (simp; done) | (simp [*]; done), by repeat (first | (with_reducible first | exact HB.out | apply below_alloc | apply pw_below_drewN | apply below_drew1 | refine below_set ?_ (Nat.le_refl _)) | exact HB.out)⟩
theorem impl_ReadAngle.calls (k : Nat) (a0 : ByteArray) (r1 r2 : Int) (w : World) (h : impl_ReadAngle.f k a0 = some (r1, r2)) (hT : Aside0 (TabAt w)) :
    Calls Tryd.prog 23 #[.string a0] w fun e w' => e = .returned (.tuple #[.int .i64 r1, .int .i64 r2]) ∧ Below w.heap.size w w' := by
  unfold impl_ReadAngle.f at h
  by_cases c : a0.size < 4294967281
  · rw [if_pos c] at h
    have e : (⟨(Lib.trimPrefix a0.data.toList [45]).toArray⟩ : ByteArray).data.toList = Lib.trimPrefix a0.data.toList [45] := by simp
    refine impl_ReadAngle.calls_p k a0 ⟨(Lib.trimPrefix a0.data.toList [45]).toArray⟩ _ _ _ (Lib.cut (Lib.trimPrefix a0.data.toList [45]) [100]).2.2 r1 r2 w h ?_ rfl rfl (by rw [e]) (by rw [e]) (by rw [e]) hT
    have hl : (Lib.trimPrefix a0.data.toList [45]).length ≤ a0.data.toList.length := by
      unfold Lib.trimPrefix
      split
      · rw [List.length_drop]; omega
      · exact Nat.le_refl _
    rw [data_length] at hl
    have hz : (⟨(Lib.trimPrefix a0.data.toList [45]).toArray⟩ : ByteArray).size = (Lib.trimPrefix a0.data.toList [45]).length := by simp [ByteArray.size]
    omega
  · rw [if_neg c] at h
    exact absurd h (by simp)

/-! ### laws_FnExactReadAngle: function 7 -/
def laws_FnExactReadAngle.f (k : Nat) (a0 : ByteArray) : Option (Bool) := if (a0.size : Int) > 1048576 then (some true) else ((spec_ReadAngle.f k a0).bind fun bt183 => ((impl_ReadAngle.f k a0).bind fun bt185 => (if bt185.1 = bt183.1 then (if bt185.2 = bt183.2 then (some true) else (some false)) else (some false))))
theorem laws_FnExactReadAngle.mono : ∀ a0 k, LeO (laws_FnExactReadAngle.f k a0) (laws_FnExactReadAngle.f (k + 1) a0) := by
  intro a0 k
  unfold laws_FnExactReadAngle.f
  repeat' first
      | (with_reducible exact impl_ReadAngle.mono _ _)
      | (with_reducible exact spec_ReadAngle.mono _ _)
      | (with_reducible exact LeO.refl _)
      | (with_reducible exact LeO.none _)
      | (with_reducible refine LeO.ite ?_ ?_)
      | (with_reducible refine LeO.bind ?_ (fun _ => ?_))
      | exact impl_ReadAngle.mono _ _
      | exact spec_ReadAngle.mono _ _
      | exact LeO.none _
      | refine LeO.ite ?_ ?_
      | refine LeO.bind ?_ (fun _ => ?_)
set_option maxHeartbeats 8000000 in
set_option maxRecDepth 100000 in
theorem laws_FnExactReadAngle.calls (k : Nat) (a0 : ByteArray) (r : Bool) (w : World) (h : laws_FnExactReadAngle.f k a0 = some r) (hT : Aside0 (TabAt w)) :
    Calls Tryd.prog 7 #[.string a0] w fun e w' => e = .returned (.bool r) ∧ Below w.heap.size w w' := by
  have HB := Aside0.mk (Below.refl w.heap.size w)
  have H : (if (a0.size : Int) > 1048576 then (some true) else ((spec_ReadAngle.f k a0).bind fun bt183 => ((impl_ReadAngle.f k a0).bind fun bt185 => (if bt185.1 = bt183.1 then (if bt185.2 = bt183.2 then (some true) else (some false)) else (some false))))) = some r := h
  clear h
  by_cases c2 : (a0.size : Int) > 1048576
  · rw [if_pos c2] at H
    have c2b0 : decide (1048576 < (a0.size : Int)) = true := decide_eq_true c2
    have c2b1 : decide (1048576 < a0.size) = true := decide_eq_true (by omega)
    clear c2
    obtain rfl := Option.some.inj H
    go_enter Tryd.func7, Tryd.ntmps7
    go_wp2
    go_ret
    exact ⟨by first | rfl | (simp [errW_none, errW_some] <;> rfl) | (simp [*, errW_none, errW_some] <;> rfl), by repeat (first | (with_reducible first | exact HB.out | apply below_alloc | apply pw_below_drewN | apply below_drew1) | exact HB.out)⟩
  · rw [if_neg c2] at H
    have c2b0 : decide (1048576 < (a0.size : Int)) = false := decide_eq_false c2
    have c2b1 : decide (1048576 < a0.size) = false := decide_eq_false (by omega)
    clear c2
    replace H := Option.bind_eq_some_iff.mp H
    obtain ⟨⟨t183, t184⟩, A30, H⟩ := H
    replace H : ((impl_ReadAngle.f k a0).bind fun bt185 => (if bt185.1 = t183 then (if bt185.2 = t184 then (some true) else (some false)) else (some false))) = some r := H
    have A3 := Aside0.mk A30
    clear A30
    replace H := Option.bind_eq_some_iff.mp H
    obtain ⟨⟨t185, t186⟩, A40, H⟩ := H
    replace H : (if t185 = t183 then (if t186 = t184 then (some true) else (some false)) else (some false)) = some r := H
    have A4 := Aside0.mk A40
    clear A40
    by_cases c5 : t185 = t183
    · rw [if_pos c5] at H
      have c5b0 : (t185 == t183) = true := beq_iff_eq.mpr c5
      have c5b1 : (t185 != t183) = false := bne_eq_false_iff_eq.mpr c5
      clear c5
      by_cases c6 : t186 = t184
      · rw [if_pos c6] at H
        have c6b0 : (t186 == t184) = true := beq_iff_eq.mpr c6
        have c6b1 : (t186 != t184) = false := bne_eq_false_iff_eq.mpr c6
        clear c6
        obtain rfl := Option.some.inj H
        go_enter Tryd.func7, Tryd.ntmps7
        go_wp2_with (first | ((with_reducible refine gate_callee (f := 22) rfl ?_); refine goesL_ (some 12) rfl rfl Tryd.func22 (by kernel_rfl) rfl #[.string a0] rfl (by (try simp only [List.map_toArray, List.map_cons, List.map_nil]); first | done | rfl | (simp only [List.length_drop, List.length_take]; rfl)) ?_; (with_reducible refine (spec_ReadAngle.calls k a0 t183 t184 _ A3.out).mono ?_); rintro e w7 ⟨rfl, hb⟩; refine ⟨_, rfl, ?_⟩; have n0_ := Aside0.mk (below_step (by repeat (first | (with_reducible first | exact HB.out | apply below_alloc | apply pw_below_drewN | apply below_drew1) | exact HB.out)) hb); clear HB; have HB := n0_; clear n0_; (try clear hb); (try clear hb2); (try clear hk); (try clear hi)) | ((with_reducible refine gate_callee (f := 23) rfl ?_); refine goesL_ (some 17) rfl rfl Tryd.func23 (by kernel_rfl) rfl #[.string a0] rfl (by (try simp only [List.map_toArray, List.map_cons, List.map_nil]); first | done | rfl | (simp only [List.length_drop, List.length_take]; rfl)) ?_; (with_reducible refine (impl_ReadAngle.calls k a0 t185 t186 _ A4.out (tabAt_on hT (by repeat (first | (with_reducible first | exact HB.out | apply below_alloc | apply pw_below_drewN | apply below_drew1 | refine below_set ?_ (Aside0.out (by assumption))) | exact HB.out)))).mono ?_); rintro e w8 ⟨rfl, hb⟩; refine ⟨_, rfl, ?_⟩; have n0_ := Aside0.mk (below_step (by repeat (first | (with_reducible first | exact HB.out | apply below_alloc | apply pw_below_drewN | apply below_drew1) | exact HB.out)) hb); clear HB; have HB := n0_; clear n0_; (try clear hb); (try clear hb2); (try clear hk); (try clear hi)))
        go_ret
        exact ⟨by first | rfl | (simp [errW_none, errW_some] <;> rfl) | (simp [*, errW_none, errW_some] <;> rfl), by repeat (first | (with_reducible first | exact HB.out | apply below_alloc | apply pw_below_drewN | apply below_drew1) | exact HB.out)⟩
      · rw [if_neg c6] at H
        have c6b0 : (t186 == t184) = false := beq_eq_false_iff_ne.mpr c6
        have c6b1 : (t186 != t184) = true := bne_iff_ne.mpr c6
        obtain rfl := Option.some.inj H
        go_enter Tryd.func7, Tryd.ntmps7
        go_wp2_with (first | ((with_reducible refine gate_callee (f := 22) rfl ?_); refine goesL_ (some 12) rfl rfl Tryd.func22 (by kernel_rfl) rfl #[.string a0] rfl (by (try simp only [List.map_toArray, List.map_cons, List.map_nil]); first | done | rfl | (simp only [List.length_drop, List.length_take]; rfl)) ?_; (with_reducible refine (spec_ReadAngle.calls k a0 t183 t184 _ A3.out).mono ?_); rintro e w9 ⟨rfl, hb⟩; refine ⟨_, rfl, ?_⟩; have n0_ := Aside0.mk (below_step (by repeat (first | (with_reducible first | exact HB.out | apply below_alloc | apply pw_below_drewN | apply below_drew1) | exact HB.out)) hb); clear HB; have HB := n0_; clear n0_; (try clear hb); (try clear hb2); (try clear hk); (try clear hi)) | ((with_reducible refine gate_callee (f := 23) rfl ?_); refine goesL_ (some 17) rfl rfl Tryd.func23 (by kernel_rfl) rfl #[.string a0] rfl (by (try simp only [List.map_toArray, List.map_cons, List.map_nil]); first | done | rfl | (simp only [List.length_drop, List.length_take]; rfl)) ?_; (with_reducible refine (impl_ReadAngle.calls k a0 t185 t186 _ A4.out (tabAt_on hT (by repeat (first | (with_reducible first | exact HB.out | apply below_alloc | apply pw_below_drewN | apply below_drew1 | refine below_set ?_ (Aside0.out (by assumption))) | exact HB.out)))).mono ?_); rintro e w10 ⟨rfl, hb⟩; refine ⟨_, rfl, ?_⟩; have n0_ := Aside0.mk (below_step (by repeat (first | (with_reducible first | exact HB.out | apply below_alloc | apply pw_below_drewN | apply below_drew1) | exact HB.out)) hb); clear HB; have HB := n0_; clear n0_; (try clear hb); (try clear hb2); (try clear hk); (try clear hi)))
        go_ret
        exact ⟨by first | rfl | (simp [errW_none, errW_some] <;> rfl) | (simp [*, errW_none, errW_some] <;> rfl), by repeat (first | (with_reducible first | exact HB.out | apply below_alloc | apply pw_below_drewN | apply below_drew1) | exact HB.out)⟩
    · rw [if_neg c5] at H
      have c5b0 : (t185 == t183) = false := beq_eq_false_iff_ne.mpr c5
      have c5b1 : (t185 != t183) = true := bne_iff_ne.mpr c5
      obtain rfl := Option.some.inj H
      go_enter Tryd.func7, Tryd.ntmps7
      go_wp2_with (first | ((with_reducible refine gate_callee (f := 22) rfl ?_); refine goesL_ (some 12) rfl rfl Tryd.func22 (by kernel_rfl) rfl #[.string a0] rfl (by (try simp only [List.map_toArray, List.map_cons, List.map_nil]); first | done | rfl | (simp only [List.length_drop, List.length_take]; rfl)) ?_; (with_reducible refine (spec_ReadAngle.calls k a0 t183 t184 _ A3.out).mono ?_); rintro e w11 ⟨rfl, hb⟩; refine ⟨_, rfl, ?_⟩; have n0_ := Aside0.mk (below_step (by repeat (first | (with_reducible first | exact HB.out | apply below_alloc | apply pw_below_drewN | apply below_drew1) | exact HB.out)) hb); clear HB; have HB := n0_; clear n0_; (try clear hb); (try clear hb2); (try clear hk); (try clear hi)) | ((with_reducible refine gate_callee (f := 23) rfl ?_); refine goesL_ (some 17) rfl rfl Tryd.func23 (by kernel_rfl) rfl #[.string a0] rfl (by (try simp only [List.map_toArray, List.map_cons, List.map_nil]); first | done | rfl | (simp only [List.length_drop, List.length_take]; rfl)) ?_; (with_reducible refine (impl_ReadAngle.calls k a0 t185 t186 _ A4.out (tabAt_on hT (by repeat (first | (with_reducible first | exact HB.out | apply below_alloc | apply pw_below_drewN | apply below_drew1 | refine below_set ?_ (Aside0.out (by assumption))) | exact HB.out)))).mono ?_); rintro e w12 ⟨rfl, hb⟩; refine ⟨_, rfl, ?_⟩; have n0_ := Aside0.mk (below_step (by repeat (first | (with_reducible first | exact HB.out | apply below_alloc | apply pw_below_drewN | apply below_drew1) | exact HB.out)) hb); clear HB; have HB := n0_; clear n0_; (try clear hb); (try clear hb2); (try clear hk); (try clear hi)))
      go_ret
      exact ⟨by first | rfl | (simp [errW_none, errW_some] <;> rfl) | (simp [*, errW_none, errW_some] <;> rfl), by repeat (first | (with_reducible first | exact HB.out | apply below_alloc | apply pw_below_drewN | apply below_drew1) | exact HB.out)⟩

/-- THE ONE PURE STATEMENT of laws_FnExactReadAngle: yours. -/
def laws_FnExactReadAngle.Pure : Prop := ∀ (a0 : ByteArray), a0.size ≤ 140737488351232 → ∃ k, laws_FnExactReadAngle.f k a0 = some true
theorem laws_FnExactReadAngle.walk (P : laws_FnExactReadAngle.Pure) (a0 : ByteArray) (w : World) (w0 : a0.size ≤ 140737488351232) (hT : Aside0 (TabAt w)) :
    Calls Tryd.prog 7 #[.string a0] w fun e w' => e = .returned (.bool true) ∧ Below w.heap.size w w' := by
  obtain ⟨k, h⟩ := P a0 w0
  refine (laws_FnExactReadAngle.calls k a0 true w h hT).mono ?_
  rintro e w' ⟨rfl, hd⟩
  exact ⟨rfl, hd⟩

end Go.Proofs.YtjheehbejehlaaaDoor.PFnExactReadAngle
