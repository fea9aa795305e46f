-- The machine's side of the law FnMonths: functions and their walks, made by q.py out of the kit's own print.
import Derived.Test.YtndjeclnadpifaaDoorQFnMonthsx0
import Derived.Test.YtndjeclnadpifaaDoorQFnMonthsx3
import Derived.Test.YtndjeclnadpifaaDoorQFnMonthsx4
import Derived.Test.YtndjeclnadpifaaDoorQFnMonthsx5
import Derived.Test.YtndjeclnadpifaaDoorQFnMonthsx6
import Derived.Test.YtndjeclnadpifaaDoorQFnMonthsx9
namespace Go.Proofs.YtndjeclnadpifaaDoor.PFnMonths
open Go.RowKit Go.Proofs.YtndjeclnadpifaaDoorW.PrintWords Go.Proofs.YtndjeclnadpifaaDoorW.PrintLast Go.Proofs.YtndjeclnadpifaaDoorW.PrintMore
attribute [local go_sem] max2_int min2_int max_two min_two max_three min_three max_four min_four   -- for this text's walks alone
set_option linter.unusedVariables false
set_option linter.unusedSimpArgs false

-- NOT PRINTED: function 118 (strconv_ParseUint)

-- NOT PRINTED: function 102 (strconv_ParseInt_102)

-- NOT PRINTED: function 137 (stringslite_Clone)

-- NOT PRINTED: function 119 (strconv_syntaxError)

-- NOT PRINTED: function 120 (strconv_rangeError)

-- NOT PRINTED: function 138 (errors_New)

-- NOT PRINTED: function 146 (strconv_Itoa_146)

-- NOT PRINTED: function 139 (strconv_Itoa_139)

-- NOT PRINTED: function 121 (strconv_baseError)

-- NOT PRINTED: function 122 (strconv_bitSizeError)

-- NOT PRINTED: function 103 (strconv_toError)

-- NOT PRINTED: function 88 (strconv_ParseInt_88)

/-! ### impl_readDecimal: function 56 -/
-- TAB
def impl_readDecimal.f (k : Nat) (s : ByteArray) : Option (Int × Bool) := if s.size > 19 then (some (0, false)) else (match Lib.parseIntB 64 s.data.toList with | .ok v => (impl_decimal.f k v).bind fun t => some (v, t.toList == s.toList) | .range => some (Lib.intSat 64 s.data.toList, false) | _ => some (0, false))
theorem impl_readDecimal.mono : ∀ a0 k, LeO (impl_readDecimal.f k a0) (impl_readDecimal.f (k + 1) a0) := fun _ _ => LeO.refl _
theorem readDec_below {w W w9 : World} (hb : Below w.heap.size w W) (h : w9 = W ∨ ∃ t, w9 = Lib.bytesWorld W 5 t) : Below w.heap.size w w9 := by
  rcases h with rfl | ⟨t, rfl⟩
  · exact hb
  · exact Below.trans hb (Joins.below_bytesWorld _ _ _ _ hb.size)
set_option maxHeartbeats 8000000 in
set_option maxRecDepth 100000 in
theorem impl_readDecimal.calls (k : Nat) (a0 : ByteArray) (r1 : Int) (r2 : Bool) (w : World) (h : impl_readDecimal.f k a0 = some (r1, r2)) (hT : Aside0 (TabAt w)) :
    Calls Tryd.prog 56 #[.string a0] w fun e w' => e = .returned (.tuple #[.int .i64 r1, .bool r2]) ∧ Below w.heap.size w w' := by
  have HB := Aside0.mk (Below.refl w.heap.size w)
  obtain ⟨t2, p2, hs⟩ := hT.out.syn
  obtain ⟨t3, p3, hr⟩ := hT.out.ran
  have HS := Aside0.mk hs
  have HR := Aside0.mk hr
  clear hs hr
  unfold impl_readDecimal.f at h
  by_cases c : a0.size > 19
  · rw [if_pos c] at h
    have c1 : decide (19 < (a0.size : Int)) = true := decide_eq_true (by omega)
    simp only [Option.some.injEq, Prod.mk.injEq] at h
    obtain ⟨rfl, rfl⟩ := h
    go_enter Tryd.func56, Tryd.ntmps56
    go_wp2
    go_ret2
    exact ⟨rfl, HB.out⟩
  · rw [if_neg c] at h
    have c1 : decide (19 < (a0.size : Int)) = false := decide_eq_false (by omega)
    cases hp : Lib.parseIntB 64 a0.data.toList
    · rename_i v
      have HP := Aside0.mk hp
      rw [hp] at h
      replace h := Option.bind_eq_some_iff.mp h
      obtain ⟨t, A0, h⟩ := h
      have A := Aside0.mk A0
      clear A0 hp
      simp only [Option.some.injEq, Prod.mk.injEq] at h
      obtain ⟨rfl, rfl⟩ := h
      go_enter Tryd.func56, Tryd.ntmps56
      go_wp2_with (first
        | (go_at_call 88; refine (Tryd.strconv_ParseInt_10_at64_ok a0 (by omega) v HP.out _).mono ?_; rintro e w9 ⟨rfl, hw9⟩; have HB9 : Aside0 (Below w.heap.size w w9) := ⟨readDec_below HB.out hw9⟩; clear hw9 HB; have HB := HB9; clear HB9)
        | (go_at_call 49; refine (impl_decimal.calls k v t _ A.out (tabAt_on hT (by repeat (first | (with_reducible first | exact HB.out | apply below_alloc | apply pw_below_drewN | apply below_drew1) | exact HB.out)))).mono ?_; rintro e w8 ⟨rfl, hb8⟩; have HB8 := below_step HB.out hb8; clear HB; have HB := Aside0.mk HB8; clear HB8))
      go_ret2
      exact ⟨rfl, HB.out⟩
    · skip
      have HP := Aside0.mk hp
      rw [hp] at h
      clear hp
      simp only [Option.some.injEq, Prod.mk.injEq] at h
      obtain ⟨rfl, rfl⟩ := h
      go_enter Tryd.func56, Tryd.ntmps56
      go_wp2_with (first
        | (go_at_call 88; refine (Tryd.strconv_ParseInt_10_at64_syntax a0 (by omega) _ HP.out (fun _ e => by cases e) (fun e => by cases e) _ _ HS.out (.inr ⟨_, _, rfl⟩)).mono ?_; rintro e w9 ⟨N, rfl, hN, hN2, hb9⟩; have HB9 := below_step HB.out hb9; clear HB hb9; have HB := Aside0.mk HB9; clear HB9))
      go_ret2
      exact ⟨rfl, HB.out⟩
    · skip
      have HP := Aside0.mk hp
      rw [hp] at h
      clear hp
      simp only [Option.some.injEq, Prod.mk.injEq] at h
      obtain ⟨rfl, rfl⟩ := h
      go_enter Tryd.func56, Tryd.ntmps56
      go_wp2_with (first
        | (go_at_call 88; refine (Tryd.strconv_ParseInt_10_at64_range a0 (by omega) HP.out _ _ HR.out (.inr ⟨_, _, rfl⟩)).mono ?_; rintro e w9 ⟨N, rfl, hN, hN2, hb9⟩; have HB9 := below_step HB.out hb9; clear HB hb9; have HB := Aside0.mk HB9; clear HB9))
      go_ret2
      exact ⟨rfl, HB.out⟩

/-! ### impl_ReadDate: function 17 -/
-- TAB
theorem split3_calls (s sep a b c : ByteArray) (w : World) (hs : s.size < 4294967281) (h1 : 1 ≤ sep.size) (h : Lib.splitB sep 0 (Lib.countB s sep) s = [a, b, c]) (hT : Aside0 (TabAt w)) :
    Calls Tryd.prog 55 #[.string s, .string sep] w fun e w' => ∃ g, e = .returned (.slice (some ⟨g, 0, none⟩) 3 3) ∧ w'.cell? ⟨g, 0, none⟩ = some (.string a) ∧ w'.cell? ⟨g, 1, none⟩ = some (.string b) ∧ w'.cell? ⟨g, 2, none⟩ = some (.string c) ∧ Below w.heap.size w w' := by
  obtain ⟨m, hm⟩ := hT.out.most
  have hn := Lib.splitB_all sep h1 0 _ s rfl
  rw [h] at hn
  have hn : Lib.countB s sep + 1 = 3 := hn.symm
  refine (Tryd.strings_Split s sep m w hs hm h1).mono ?_
  rintro e w' ⟨rfl, rfl⟩
  rw [hn, h]
  have hh := blk_new w (.cells (([a, b, c] : List ByteArray).map Value.string).toArray 9)
  exact ⟨w.heap.size, rfl, (blk_cell hh 0).trans rfl, (blk_cell hh 1).trans rfl, (blk_cell hh 2).trans rfl, below_alloc (Below.refl _ _) _⟩
theorem splitN_calls (s sep : ByteArray) (w : World) (hs : s.size < 4294967281) (h1 : 1 ≤ sep.size) (hn : (Lib.splitB sep 0 (Lib.countB s sep) s).length ≠ 3) (hT : Aside0 (TabAt w)) :
    Calls Tryd.prog 55 #[.string s, .string sep] w fun e w' => ∃ g n : Nat, n ≠ 3 ∧ e = .returned (.slice (some ⟨g, 0, none⟩) n n) ∧ Below w.heap.size w w' := by
  obtain ⟨m, hm⟩ := hT.out.most
  refine (Tryd.strings_Split s sep m w hs hm h1).mono ?_
  rintro e w' ⟨rfl, rfl⟩
  exact ⟨w.heap.size, _, by rw [← Lib.splitB_all sep h1 0 _ s rfl]; exact hn, rfl, below_alloc (Below.refl _ _) _⟩
theorem sep_one : 1 ≤ (⟨#[45]⟩ : ByteArray).size := by
  have h : (⟨#[45]⟩ : ByteArray).size = 1 := rfl
  omega
def impl_two.f (a0 : ByteArray) : Option Int := if 1 < a0.size then (some (wrap64 (wrap64 (wrap64 (10 * wrap64 (wrap64 (bt a0 0) - 48)) + wrap64 (bt a0 1)) - 48))) else (none)
set_option maxHeartbeats 8000000 in
set_option maxRecDepth 100000 in
theorem impl_two.calls (a0 : ByteArray) (r : Int) (w : World) (h : impl_two.f a0 = some r) :
    Calls Tryd.prog 57 #[.string a0] w fun e w' => e = .returned (.int .i64 r) ∧ Drawn0 w w' := by
  unfold impl_two.f at h
  by_cases c : 1 < a0.size
  · rw [if_pos c] at h
    obtain rfl := Option.some.inj h
    have q0 := eq_true (show 0 < a0.size by omega)
    have q1 := eq_true c
    have qi0 := eq_true (show 0 < (a0.size : Int) by omega)
    have qi1 := eq_true (show 1 < (a0.size : Int) by omega)
    have hx0 : ∀ h : 0 < a0.size, ((a0[0]'h).toNat : Int) = bt a0 0 := bt_at a0 0
    have hx1 : ∀ h : 1 < a0.size, ((a0[1]'h).toNat : Int) = bt a0 1 := bt_at a0 1
    clear c
    go_enter Tryd.func57, Tryd.ntmps57
    go_wp2
    go_region
    all_goals go_wp2
    all_goals go_ret
    all_goals exact ⟨by first | rfl | (simp [go_sem]; done), by repeat (first | exact Drawn0.refl _ | apply Drawn0.step)⟩
  · rw [if_neg c] at h
    exact absurd h (by simp)
def impl_ReadDate.p (k : Nat) (s a b c : ByteArray) : Option (Int × Int × Int × Int) := if (b.size : Int) = 2 then (if (c.size : Int) = 2 then ((impl_readDecimal.f k a).bind fun y => ((impl_two.f b).bind fun m => ((impl_two.f c).bind fun d => ((impl_DateText.f k y.1 m d).bind fun t => (if y.2 = true then (if t.2 = 0 then (if t.1.toList = s.toList then (some (y.1, m, d, 0)) else (some (0, 0, 0, 6))) else (some (0, 0, 0, 6))) else (some (0, 0, 0, 6))))))) else (some (0, 0, 0, 6))) else (some (0, 0, 0, 6))
def impl_ReadDate.f (k : Nat) (s : ByteArray) : Option (Int × Int × Int × Int) := if s.size < 4294967281 then (match Lib.splitB (⟨#[45]⟩ : ByteArray) 0 (Lib.countB s (⟨#[45]⟩ : ByteArray)) s with | [a, b, c] => impl_ReadDate.p k s a b c | _ => some (0, 0, 0, 6)) else none
theorem impl_ReadDate.mono : ∀ a0 k, LeO (impl_ReadDate.f k a0) (impl_ReadDate.f (k + 1) a0) := by
  intro a0 k
  unfold impl_ReadDate.f
  refine LeO.ite ?_ (LeO.none _)
  split
  · unfold impl_ReadDate.p
    repeat' first
      | (with_reducible exact impl_readDecimal.mono _ _)
      | (with_reducible exact impl_DateText.mono _ _ _ _)
      | (with_reducible exact LeO.refl _)
      | (with_reducible refine LeO.ite ?_ ?_)
      | (with_reducible refine LeO.bind ?_ (fun _ => ?_))
  · exact LeO.refl _
theorem dat_on {g gb : Nat} {w W W' : World} {x y : Value} {o : Obj} (hS : W.cell? ⟨g, 1, none⟩ = some x ∧ W.cell? ⟨g, 2, none⟩ = some y ∧ W.heap[gb]? = some o ∧ Below w.heap.size w W) (hw : Below W.heap.size W W') : W'.cell? ⟨g, 1, none⟩ = some x ∧ W'.cell? ⟨g, 2, none⟩ = some y ∧ W'.heap[gb]? = some o ∧ Below w.heap.size w W' :=
  ⟨pw_cell_below hw hS.1, pw_cell_below hw hS.2.1, blk_below hS.2.2.1 hw, below_step hS.2.2.2 hw⟩
theorem dat_drew {g gb : Nat} {w W : World} {x y : Value} {o : Obj} (hS : W.cell? ⟨g, 1, none⟩ = some x ∧ W.cell? ⟨g, 2, none⟩ = some y ∧ W.heap[gb]? = some o ∧ Below w.heap.size w W) : W.drew.cell? ⟨g, 1, none⟩ = some x ∧ W.drew.cell? ⟨g, 2, none⟩ = some y ∧ W.drew.heap[gb]? = some o ∧ Below w.heap.size w W.drew := dat_on hS (below_drew1 (Below.refl _ _))
theorem dat_drawn {g gb : Nat} {w W W' : World} {x y : Value} {o : Obj} (hS : W.cell? ⟨g, 1, none⟩ = some x ∧ W.cell? ⟨g, 2, none⟩ = some y ∧ W.heap[gb]? = some o ∧ Below w.heap.size w W) (hd : Drawn0 W W') : W'.cell? ⟨g, 1, none⟩ = some x ∧ W'.cell? ⟨g, 2, none⟩ = some y ∧ W'.heap[gb]? = some o ∧ Below w.heap.size w W' := dat_on hS (by obtain ⟨nd, rfl⟩ := hd; exact pw_below_drewN (Below.refl _ _) nd)
theorem dat_alloc {g gb : Nat} {w W : World} {x y : Value} {o : Obj} (hS : W.cell? ⟨g, 1, none⟩ = some x ∧ W.cell? ⟨g, 2, none⟩ = some y ∧ W.heap[gb]? = some o ∧ Below w.heap.size w W) (o' : Obj) : (W.alloc o').cell? ⟨g, 1, none⟩ = some x ∧ (W.alloc o').cell? ⟨g, 2, none⟩ = some y ∧ (W.alloc o').heap[gb]? = some o ∧ Below w.heap.size w (W.alloc o') := dat_on hS (below_alloc (Below.refl _ _) o')
theorem dat_set {g gb N j : Nat} {w W : World} {x y v : Value} {o : Obj} (hS : W.cell? ⟨g, 1, none⟩ = some x ∧ W.cell? ⟨g, 2, none⟩ = some y ∧ W.heap[gb]? = some o ∧ Below w.heap.size w W) (h1 : g ≠ N) (h2 : gb ≠ N) (h3 : w.heap.size ≤ N) : (W.setCell ⟨N, j, none⟩ v).cell? ⟨g, 1, none⟩ = some x ∧ (W.setCell ⟨N, j, none⟩ v).cell? ⟨g, 2, none⟩ = some y ∧ (W.setCell ⟨N, j, none⟩ v).heap[gb]? = some o ∧ Below w.heap.size w (W.setCell ⟨N, j, none⟩ v) :=
  ⟨(cell_far (p := ⟨N, j, none⟩) (a := ⟨g, 1, none⟩) h1 v).trans hS.1, (cell_far (p := ⟨N, j, none⟩) (a := ⟨g, 2, none⟩) h1 v).trans hS.2.1, (Below.heap_setCell W ⟨N, j, none⟩ v gb h2).trans hS.2.2.1, below_set hS.2.2.2 h3⟩
theorem dat_set3 {g gb : Nat} {w W X : World} {x y a b c : Value} {o : Obj} (hX : X.cell? ⟨g, 1, none⟩ = some x ∧ X.cell? ⟨g, 2, none⟩ = some y ∧ X.heap[gb]? = some o ∧ Below w.heap.size w X) (hS : W.cell? ⟨g, 1, none⟩ = some x ∧ W.cell? ⟨g, 2, none⟩ = some y ∧ W.heap[gb]? = some o ∧ Below w.heap.size w W) : (((W.setCell ⟨X.heap.size, 0, none⟩ a).setCell ⟨X.heap.size, 1, none⟩ b).setCell ⟨X.heap.size, 2, none⟩ c).cell? ⟨g, 1, none⟩ = some x ∧ (((W.setCell ⟨X.heap.size, 0, none⟩ a).setCell ⟨X.heap.size, 1, none⟩ b).setCell ⟨X.heap.size, 2, none⟩ c).cell? ⟨g, 2, none⟩ = some y ∧ (((W.setCell ⟨X.heap.size, 0, none⟩ a).setCell ⟨X.heap.size, 1, none⟩ b).setCell ⟨X.heap.size, 2, none⟩ c).heap[gb]? = some o ∧ Below w.heap.size w (((W.setCell ⟨X.heap.size, 0, none⟩ a).setCell ⟨X.heap.size, 1, none⟩ b).setCell ⟨X.heap.size, 2, none⟩ c) := by
  have h1 : g ≠ X.heap.size := Nat.ne_of_lt (World.block_lt_of_cell? X _ hX.1)
  have h2 : gb ≠ X.heap.size := Nat.ne_of_lt (blk_lt hX.2.2.1)
  exact dat_set (dat_set (dat_set hS h1 h2 hX.2.2.2.size) h1 h2 hX.2.2.2.size) h1 h2 hX.2.2.2.size
set_option maxHeartbeats 8000000 in
set_option maxRecDepth 100000 in
theorem impl_ReadDate.calls_p (k : Nat) (s a b c : ByteArray) (r1 r2 r3 r4 : Int) (w : World) (h : impl_ReadDate.p k s a b c = some (r1, r2, r3, r4)) (hs : s.size < 4294967281) (hsp : Lib.splitB (⟨#[45]⟩ : ByteArray) 0 (Lib.countB s (⟨#[45]⟩ : ByteArray)) s = [a, b, c]) (hT : Aside0 (TabAt w)) :
    Calls Tryd.prog 17 #[.string s] w fun e w' => e = .returned (.tuple #[.agg #[.int .i64 r1, .int .i64 r2, .int .i64 r3], .int .i64 r4]) ∧ Below w.heap.size w w' := by
  have hu28 := Tryd.underlying27
  have HB := Aside0.mk (Below.refl w.heap.size w)
  have HS := Aside0.mk hs
  have HP := Aside0.mk hsp
  have H := h
  clear h hs hsp
  unfold impl_ReadDate.p at H
  by_cases c1 : (b.size : Int) = 2
  · rw [if_pos c1] at H
    have c1b : ((b.size : Int) == 2) = true := beq_iff_eq.mpr c1
    have c1c : ((b.size : Int) != 2) = false := bne_eq_false_iff_eq.mpr c1
    clear c1
    by_cases c2 : (c.size : Int) = 2
    · rw [if_pos c2] at H
      have c2b : ((c.size : Int) == 2) = true := beq_iff_eq.mpr c2
      have c2c : ((c.size : Int) != 2) = false := bne_eq_false_iff_eq.mpr c2
      clear c2
      replace H := Option.bind_eq_some_iff.mp H
      obtain ⟨⟨y, ok⟩, A10, H⟩ := H
      replace H := Option.bind_eq_some_iff.mp H
      obtain ⟨m, A20, H⟩ := H
      replace H := Option.bind_eq_some_iff.mp H
      obtain ⟨d, A30, H⟩ := H
      replace H := Option.bind_eq_some_iff.mp H
      obtain ⟨⟨t, code⟩, A40, H⟩ := H
      have A1 := Aside0.mk A10
      have A2 := Aside0.mk A20
      have A3 := Aside0.mk A30
      have A4 := Aside0.mk A40
      have HH := Aside0.mk H
      clear A10 A20 A30 A40 H
      go_enter Tryd.func17, Tryd.ntmps17
      go_wp2_with (first | ((with_reducible refine gate_dst (N := 2) rfl ?_); refine box_event ?hg (N := 2) ?hd (cs := #[.int .i64 0, .int .i64 0, .int .i64 0]) (t := 27) ?hr ?_; (case hd => rfl); (case hg => rfl); (case hr => first | (go_simp; done) | (go_simp; rfl)); intro gb hg w3 hbox hb; have n0_ := Aside0.mk (below_step (by repeat (first | (with_reducible first | exact HB.out | apply below_alloc | apply pw_below_drewN | apply below_drew1) | exact HB.out)) hb); have n1_ := Aside0.mk (hbox); have n2_ := Aside0.mk ((by rw [hg]; exact (below_size (by repeat (first | (with_reducible first | exact HB.out | apply below_alloc | apply pw_below_drewN | apply below_drew1) | exact HB.out))) : w.heap.size ≤ gb)); clear HB; have HB := n0_; have BK := n1_; have GE := n2_; clear n0_ n1_ n2_ hb hbox hg) | ((with_reducible refine gate_callee (f := 55) rfl ?_); refine goesL_ (some 12) rfl rfl Tryd.func55 (by kernel_rfl) rfl #[.string s, .string ⟨#[45]⟩] rfl (by (try simp only [List.map_toArray, List.map_cons, List.map_nil]); first | done | rfl) ?_; (with_reducible refine (split3_calls s ⟨#[45]⟩ a b c _ HS.out sep_one HP.out (tabAt_on hT (by repeat (first | (with_reducible first | exact HB.out | apply below_alloc | apply pw_below_drewN | apply below_drew1 | refine below_set ?_ GE.out) | exact HB.out)))).mono ?_); rintro e w5 ⟨g, rfl, hca, hcb, hcc, hb5⟩; refine ⟨_, rfl, ?_⟩; have n0_ := Aside0.mk (below_step (by repeat (first | (with_reducible first | exact HB.out | apply below_alloc | apply pw_below_drewN | apply below_drew1 | refine below_set ?_ GE.out) | exact HB.out)) hb5); have n1_ := Aside0.mk (blk_below (g := gb) (o := .cells #[.int .i64 0, .int .i64 0, .int .i64 0] 27 (0, 0)) (by (with_reducible repeat (first | refine blk_drewN ?_ _ | refine blk_drew ?_ | refine blk_alloc ?_ _)); exact BK.out) hb5); clear HB BK hb5; have HB := n0_; have BK := n1_; clear n0_ n1_; have hz0 : w5.cell? ⟨gb, 0, none⟩ = some (.int .i64 0) := (blk_cell BK.out 0).trans rfl; have hz1 : w5.cell? ⟨gb, 1, none⟩ = some (.int .i64 0) := (blk_cell BK.out 1).trans rfl; have hz2 : w5.cell? ⟨gb, 2, none⟩ = some (.int .i64 0) := (blk_cell BK.out 2).trans rfl; have hf0 := blk_frozen BK.out 0; have hf1 := blk_frozen BK.out 1; have hf2 := blk_frozen BK.out 2) | ((with_reducible refine gate_callee (f := 56) rfl ?_); refine goesL_ (some 35) rfl rfl Tryd.func56 (by kernel_rfl) rfl #[.string a] rfl (by (try simp only [List.map_toArray, List.map_cons, List.map_nil]); first | done | rfl) ?_; (with_reducible refine (impl_readDecimal.calls k a y ok _ A1.out (tabAt_on hT (by repeat (first | (with_reducible first | exact HB.out | apply below_alloc | apply pw_below_drewN | apply below_drew1 | refine below_set ?_ GE.out) | exact HB.out)))).mono ?_); rintro e w6 ⟨rfl, hb6⟩; refine ⟨_, rfl, ?_⟩; have n0_ := Aside0.mk (below_step (by repeat (first | (with_reducible first | exact HB.out | apply below_alloc | apply pw_below_drewN | apply below_drew1 | refine below_set ?_ GE.out) | exact HB.out)) hb6); have n1_ := Aside0.mk (blk_below (g := gb) (o := .cells #[.int .i64 0, .int .i64 0, .int .i64 0] 27 (0, 0)) (by (with_reducible repeat (first | refine blk_drewN ?_ _ | refine blk_drew ?_ | refine blk_alloc ?_ _)); exact BK.out) hb6); have hcb' := pw_cell_below hb6 hcb; have hcc' := pw_cell_below hb6 hcc; clear HB BK hb6 hca hcb hcc hz0 hz1 hz2 hf0 hf1 hf2; have HB := n0_; have BK := n1_; clear n0_ n1_))
      have hS0 : w6.cell? ⟨g, 1, none⟩ = some (.string b) ∧ w6.cell? ⟨g, 2, none⟩ = some (.string c) ∧ w6.heap[gb]? = some (.cells #[.int .i64 0, .int .i64 0, .int .i64 0] 27 (0, 0)) ∧ Below w.heap.size w w6 := ⟨hcb', hcc', BK.out, HB.out⟩
      clear hcb' hcc' BK HB c1b c1c c2b c2c
      have hcn0 : ∀ n : Nat, ((w6.drewN n).alloc (Obj.cells #[Value.int .i64 0, Value.int .i64 0, Value.int .i64 0] 27)).cell? ⟨w6.heap.size, 0, none⟩ = some (.int .i64 0) := fun n => (blk_cell (blk_new (w6.drewN n) (Obj.cells #[Value.int .i64 0, Value.int .i64 0, Value.int .i64 0] 27)) 0).trans rfl
      have hfn0 : ∀ n : Nat, ((w6.drewN n).alloc (Obj.cells #[Value.int .i64 0, Value.int .i64 0, Value.int .i64 0] 27)).frozen? ⟨w6.heap.size, 0, none⟩ = false := fun n => blk_frozen (blk_new (w6.drewN n) (Obj.cells #[Value.int .i64 0, Value.int .i64 0, Value.int .i64 0] 27)) 0
      have hcn1 : ∀ n : Nat, ((w6.drewN n).alloc (Obj.cells #[Value.int .i64 0, Value.int .i64 0, Value.int .i64 0] 27)).cell? ⟨w6.heap.size, 1, none⟩ = some (.int .i64 0) := fun n => (blk_cell (blk_new (w6.drewN n) (Obj.cells #[Value.int .i64 0, Value.int .i64 0, Value.int .i64 0] 27)) 1).trans rfl
      have hfn1 : ∀ n : Nat, ((w6.drewN n).alloc (Obj.cells #[Value.int .i64 0, Value.int .i64 0, Value.int .i64 0] 27)).frozen? ⟨w6.heap.size, 1, none⟩ = false := fun n => blk_frozen (blk_new (w6.drewN n) (Obj.cells #[Value.int .i64 0, Value.int .i64 0, Value.int .i64 0] 27)) 1
      have hcn2 : ∀ n : Nat, ((w6.drewN n).alloc (Obj.cells #[Value.int .i64 0, Value.int .i64 0, Value.int .i64 0] 27)).cell? ⟨w6.heap.size, 2, none⟩ = some (.int .i64 0) := fun n => (blk_cell (blk_new (w6.drewN n) (Obj.cells #[Value.int .i64 0, Value.int .i64 0, Value.int .i64 0] 27)) 2).trans rfl
      have hfn2 : ∀ n : Nat, ((w6.drewN n).alloc (Obj.cells #[Value.int .i64 0, Value.int .i64 0, Value.int .i64 0] 27)).frozen? ⟨w6.heap.size, 2, none⟩ = false := fun n => blk_frozen (blk_new (w6.drewN n) (Obj.cells #[Value.int .i64 0, Value.int .i64 0, Value.int .i64 0] 27)) 2
      go_region_held3 (fun W => W.cell? ⟨g, 1, none⟩ = some (.string b) ∧ W.cell? ⟨g, 2, none⟩ = some (.string c) ∧ W.heap[gb]? = some (.cells #[.int .i64 0, .int .i64 0, .int .i64 0] 27 (0, 0)) ∧ Below w.heap.size w W) (first | (with_reducible exact hS0) | (with_reducible refine dat_on hS0 ?_; exact (by repeat (first | (with_reducible first | exact Below.refl _ _ | apply below_alloc | apply pw_below_drewN | apply below_drew1 | refine below_set ?_ (Nat.le_refl _)) | exact Below.refl _ _))) | (with_reducible refine dat_set3 hS0 (dat_on hS0 ?_); exact (by repeat (first | (with_reducible first | exact Below.refl _ _ | apply below_alloc | apply pw_below_drewN | apply below_drew1 | refine below_set ?_ (Nat.le_refl _)) | exact Below.refl _ _))))
        (first | (go_at_call 57; with_reducible refine (impl_two.calls b m _ A2.out).mono ?_; rintro e w' ⟨rfl, ⟨nd, rfl⟩⟩) | (go_at_call 57; with_reducible refine (impl_two.calls c d _ A3.out).mono ?_; rintro e w' ⟨rfl, ⟨nd, rfl⟩⟩))
      all_goals go_wp2_with fail
      all_goals (
        refine (impl_DateText.calls k y m d t code _ A4.out (tabAt_on hT (dat_on hS0 (by repeat (first | (with_reducible first | exact Below.refl _ _ | apply below_alloc | apply pw_below_drewN | apply below_drew1 | refine below_set ?_ (Nat.le_refl _)) | exact Below.refl _ _))).2.2.2)).mono ?_
        rintro e w8 ⟨rfl, hb8⟩
        have BK := blk_below (dat_on hS0 (by repeat (first | (with_reducible first | exact Below.refl _ _ | apply below_alloc | apply pw_below_drewN | apply below_drew1 | refine below_set ?_ (Nat.le_refl _)) | exact Below.refl _ _))).2.2.1 hb8
        have HB := below_step (dat_on hS0 (by repeat (first | (with_reducible first | exact Below.refl _ _ | apply below_alloc | apply pw_below_drewN | apply below_drew1 | refine below_set ?_ (Nat.le_refl _)) | exact Below.refl _ _))).2.2.2 hb8
        have BN := blk_below (g := w6.heap.size) (o := .cells #[.int .i64 y, .int .i64 m, .int .i64 d] 27 (0, 0)) (by refine blk_put (cs := #[.int .i64 y, .int .i64 m, .int .i64 0]) ?_ 2 _ rfl; refine blk_put (cs := #[.int .i64 y, .int .i64 0, .int .i64 0]) ?_ 1 _ rfl; refine blk_put (cs := #[.int .i64 0, .int .i64 0, .int .i64 0]) ?_ 0 _ rfl; (with_reducible repeat (first | refine blk_drewN ?_ _ | refine blk_drew ?_)); exact blk_new _ _) hb8
        clear hb8
        have hd0 : w8.cell? ⟨w6.heap.size, 0, none⟩ = some (.int .i64 y) := (blk_cell BN 0).trans rfl
        have hd1 : w8.cell? ⟨w6.heap.size, 1, none⟩ = some (.int .i64 m) := (blk_cell BN 1).trans rfl
        have hd2 : w8.cell? ⟨w6.heap.size, 2, none⟩ = some (.int .i64 d) := (blk_cell BN 2).trans rfl
        have hz0 : w8.cell? ⟨gb, 0, none⟩ = some (.int .i64 0) := (blk_cell BK 0).trans rfl
        have hz1 : w8.cell? ⟨gb, 1, none⟩ = some (.int .i64 0) := (blk_cell BK 1).trans rfl
        have hz2 : w8.cell? ⟨gb, 2, none⟩ = some (.int .i64 0) := (blk_cell BK 2).trans rfl
        have hf0 := blk_frozen BK 0
        have hf1 := blk_frozen BK 1
        have hf2 := blk_frozen BK 2
        clear hcn0 hcn1 hcn2 hfn0 hfn1 hfn2
        have H := HH.out
        clear HH
        by_cases c5 : ok = true
        · subst c5
          rw [if_pos rfl] at H
          by_cases c6 : code = 0
          · rw [if_pos c6] at H
            have c6b : (code == 0) = true := beq_iff_eq.mpr c6
            have c6c : (code != 0) = false := bne_eq_false_iff_eq.mpr c6
            clear c6
            by_cases c7 : t.toList = s.toList
            · rw [if_pos c7] at H
              have c7b : (t.toList == s.toList) = true := beq_iff_eq.mpr c7
              have c7c : (t.toList != s.toList) = false := bne_eq_false_iff_eq.mpr c7
              clear c7
              simp only [Option.some.injEq, Prod.mk.injEq] at H
              obtain ⟨rfl, rfl, rfl, rfl⟩ := H
              go_wp2
              refine bodyPost_ret (results_ct rfl _ _ gb 27 #[.int .i64 y, .int .i64 m, .int .i64 d] (0, 0) _ rfl (by (with_reducible repeat (first | refine blk_drewN ?_ _ | refine blk_drew ?_ | refine blk_alloc ?_ _)); refine blk_put (cs := #[.int .i64 y, .int .i64 m, .int .i64 0]) ?_ 2 _ rfl; (with_reducible repeat (first | refine blk_drewN ?_ _ | refine blk_drew ?_ | refine blk_alloc ?_ _)); refine blk_put (cs := #[.int .i64 y, .int .i64 0, .int .i64 0]) ?_ 1 _ rfl; (with_reducible repeat (first | refine blk_drewN ?_ _ | refine blk_drew ?_ | refine blk_alloc ?_ _)); refine blk_put (cs := #[.int .i64 0, .int .i64 0, .int .i64 0]) ?_ 0 _ rfl; (with_reducible repeat (first | refine blk_drewN ?_ _ | refine blk_drew ?_ | refine blk_alloc ?_ _)); exact BK) Tryd.underlying27 rfl (by kernel_rfl)) rfl ?_
              exact ⟨by first | rfl | (simp; done) | (simp [*]; done), by repeat (first | (with_reducible first | exact HB | apply below_alloc | apply pw_below_drewN | apply below_drew1 | refine below_set ?_ GE.out) | exact HB)⟩
            · rw [if_neg c7] at H
              have c7b : (t.toList == s.toList) = false := beq_eq_false_iff_ne.mpr c7
              have c7c : (t.toList != s.toList) = true := bne_iff_ne.mpr c7
              clear c7
              simp only [Option.some.injEq, Prod.mk.injEq] at H
              obtain ⟨rfl, rfl, rfl, rfl⟩ := H
              go_wp2
              refine bodyPost_ret (results_ct rfl _ _ gb 27 #[.int .i64 0, .int .i64 0, .int .i64 0] (0, 0) _ rfl (by (with_reducible repeat (first | refine blk_drewN ?_ _ | refine blk_drew ?_ | refine blk_alloc ?_ _)); refine blk_put (cs := #[.int .i64 0, .int .i64 0, .int .i64 0]) ?_ 2 _ rfl; (with_reducible repeat (first | refine blk_drewN ?_ _ | refine blk_drew ?_ | refine blk_alloc ?_ _)); refine blk_put (cs := #[.int .i64 0, .int .i64 0, .int .i64 0]) ?_ 1 _ rfl; (with_reducible repeat (first | refine blk_drewN ?_ _ | refine blk_drew ?_ | refine blk_alloc ?_ _)); refine blk_put (cs := #[.int .i64 0, .int .i64 0, .int .i64 0]) ?_ 0 _ rfl; (with_reducible repeat (first | refine blk_drewN ?_ _ | refine blk_drew ?_ | refine blk_alloc ?_ _)); exact BK) Tryd.underlying27 rfl (by kernel_rfl)) rfl ?_
              exact ⟨by first | rfl | (simp; done) | (simp [*]; done), by repeat (first | (with_reducible first | exact HB | apply below_alloc | apply pw_below_drewN | apply below_drew1 | refine below_set ?_ GE.out) | exact HB)⟩
          · rw [if_neg c6] at H
            have c6b : (code == 0) = false := beq_eq_false_iff_ne.mpr c6
            have c6c : (code != 0) = true := bne_iff_ne.mpr c6
            clear c6
            simp only [Option.some.injEq, Prod.mk.injEq] at H
            obtain ⟨rfl, rfl, rfl, rfl⟩ := H
            go_wp2
            refine bodyPost_ret (results_ct rfl _ _ gb 27 #[.int .i64 0, .int .i64 0, .int .i64 0] (0, 0) _ rfl (by (with_reducible repeat (first | refine blk_drewN ?_ _ | refine blk_drew ?_ | refine blk_alloc ?_ _)); refine blk_put (cs := #[.int .i64 0, .int .i64 0, .int .i64 0]) ?_ 2 _ rfl; (with_reducible repeat (first | refine blk_drewN ?_ _ | refine blk_drew ?_ | refine blk_alloc ?_ _)); refine blk_put (cs := #[.int .i64 0, .int .i64 0, .int .i64 0]) ?_ 1 _ rfl; (with_reducible repeat (first | refine blk_drewN ?_ _ | refine blk_drew ?_ | refine blk_alloc ?_ _)); refine blk_put (cs := #[.int .i64 0, .int .i64 0, .int .i64 0]) ?_ 0 _ rfl; (with_reducible repeat (first | refine blk_drewN ?_ _ | refine blk_drew ?_ | refine blk_alloc ?_ _)); exact BK) Tryd.underlying27 rfl (by kernel_rfl)) rfl ?_
            exact ⟨by first | rfl | (simp; done) | (simp [*]; done), by repeat (first | (with_reducible first | exact HB | apply below_alloc | apply pw_below_drewN | apply below_drew1 | refine below_set ?_ GE.out) | exact HB)⟩
        · replace c5 := Bool.eq_false_iff.mpr c5
          subst c5
          rw [if_neg (by decide)] at H
          simp only [Option.some.injEq, Prod.mk.injEq] at H
          obtain ⟨rfl, rfl, rfl, rfl⟩ := H
          go_wp2
          refine bodyPost_ret (results_ct rfl _ _ gb 27 #[.int .i64 0, .int .i64 0, .int .i64 0] (0, 0) _ rfl (by (with_reducible repeat (first | refine blk_drewN ?_ _ | refine blk_drew ?_ | refine blk_alloc ?_ _)); refine blk_put (cs := #[.int .i64 0, .int .i64 0, .int .i64 0]) ?_ 2 _ rfl; (with_reducible repeat (first | refine blk_drewN ?_ _ | refine blk_drew ?_ | refine blk_alloc ?_ _)); refine blk_put (cs := #[.int .i64 0, .int .i64 0, .int .i64 0]) ?_ 1 _ rfl; (with_reducible repeat (first | refine blk_drewN ?_ _ | refine blk_drew ?_ | refine blk_alloc ?_ _)); refine blk_put (cs := #[.int .i64 0, .int .i64 0, .int .i64 0]) ?_ 0 _ rfl; (with_reducible repeat (first | refine blk_drewN ?_ _ | refine blk_drew ?_ | refine blk_alloc ?_ _)); exact BK) Tryd.underlying27 rfl (by kernel_rfl)) rfl ?_
          exact ⟨by first | rfl | (simp; done) | (simp [*]; done), by repeat (first | (with_reducible first | exact HB | apply below_alloc | apply pw_below_drewN | apply below_drew1 | refine below_set ?_ GE.out) | exact HB)⟩
        )
    · rw [if_neg c2] at H
      have c2b : ((c.size : Int) == 2) = false := beq_eq_false_iff_ne.mpr c2
      have c2c : ((c.size : Int) != 2) = true := bne_iff_ne.mpr c2
      clear c2
      simp only [Option.some.injEq, Prod.mk.injEq] at H
      obtain ⟨rfl, rfl, rfl, rfl⟩ := H
      go_enter Tryd.func17, Tryd.ntmps17
      go_wp2_with (first | ((with_reducible refine gate_dst (N := 2) rfl ?_); refine box_event ?hg (N := 2) ?hd (cs := #[.int .i64 0, .int .i64 0, .int .i64 0]) (t := 27) ?hr ?_; (case hd => rfl); (case hg => rfl); (case hr => first | (go_simp; done) | (go_simp; rfl)); intro gb hg w3 hbox hb; have n0_ := Aside0.mk (below_step (by repeat (first | (with_reducible first | exact HB.out | apply below_alloc | apply pw_below_drewN | apply below_drew1) | exact HB.out)) hb); have n1_ := Aside0.mk (hbox); have n2_ := Aside0.mk ((by rw [hg]; exact (below_size (by repeat (first | (with_reducible first | exact HB.out | apply below_alloc | apply pw_below_drewN | apply below_drew1) | exact HB.out))) : w.heap.size ≤ gb)); clear HB; have HB := n0_; have BK := n1_; have GE := n2_; clear n0_ n1_ n2_ hb hbox hg) | ((with_reducible refine gate_callee (f := 55) rfl ?_); refine goesL_ (some 12) rfl rfl Tryd.func55 (by kernel_rfl) rfl #[.string s, .string ⟨#[45]⟩] rfl (by (try simp only [List.map_toArray, List.map_cons, List.map_nil]); first | done | rfl) ?_; (with_reducible refine (split3_calls s ⟨#[45]⟩ a b c _ HS.out sep_one HP.out (tabAt_on hT (by repeat (first | (with_reducible first | exact HB.out | apply below_alloc | apply pw_below_drewN | apply below_drew1 | refine below_set ?_ GE.out) | exact HB.out)))).mono ?_); rintro e w5 ⟨g, rfl, hca, hcb, hcc, hb5⟩; refine ⟨_, rfl, ?_⟩; have n0_ := Aside0.mk (below_step (by repeat (first | (with_reducible first | exact HB.out | apply below_alloc | apply pw_below_drewN | apply below_drew1 | refine below_set ?_ GE.out) | exact HB.out)) hb5); have n1_ := Aside0.mk (blk_below (g := gb) (o := .cells #[.int .i64 0, .int .i64 0, .int .i64 0] 27 (0, 0)) (by (with_reducible repeat (first | refine blk_drewN ?_ _ | refine blk_drew ?_ | refine blk_alloc ?_ _)); exact BK.out) hb5); clear HB BK hb5; have HB := n0_; have BK := n1_; clear n0_ n1_; have hz0 : w5.cell? ⟨gb, 0, none⟩ = some (.int .i64 0) := (blk_cell BK.out 0).trans rfl; have hz1 : w5.cell? ⟨gb, 1, none⟩ = some (.int .i64 0) := (blk_cell BK.out 1).trans rfl; have hz2 : w5.cell? ⟨gb, 2, none⟩ = some (.int .i64 0) := (blk_cell BK.out 2).trans rfl; have hf0 := blk_frozen BK.out 0; have hf1 := blk_frozen BK.out 1; have hf2 := blk_frozen BK.out 2))
      refine bodyPost_ret (results_ct rfl _ _ gb 27 #[.int .i64 0, .int .i64 0, .int .i64 0] (0, 0) _ rfl (by (with_reducible repeat (first | refine blk_drewN ?_ _ | refine blk_drew ?_ | refine blk_alloc ?_ _)); refine blk_put (cs := #[.int .i64 0, .int .i64 0, .int .i64 0]) ?_ 2 _ rfl; (with_reducible repeat (first | refine blk_drewN ?_ _ | refine blk_drew ?_ | refine blk_alloc ?_ _)); refine blk_put (cs := #[.int .i64 0, .int .i64 0, .int .i64 0]) ?_ 1 _ rfl; (with_reducible repeat (first | refine blk_drewN ?_ _ | refine blk_drew ?_ | refine blk_alloc ?_ _)); refine blk_put (cs := #[.int .i64 0, .int .i64 0, .int .i64 0]) ?_ 0 _ rfl; (with_reducible repeat (first | refine blk_drewN ?_ _ | refine blk_drew ?_ | refine blk_alloc ?_ _)); exact BK.out) Tryd.underlying27 rfl (by kernel_rfl)) rfl ?_
      exact ⟨by first | rfl | (simp; done) | (simp [*]; done), by repeat (first | (with_reducible first | exact HB.out | apply below_alloc | apply pw_below_drewN | apply below_drew1 | refine below_set ?_ GE.out) | exact HB.out)⟩
  · rw [if_neg c1] at H
    have c1b : ((b.size : Int) == 2) = false := beq_eq_false_iff_ne.mpr c1
    have c1c : ((b.size : Int) != 2) = true := bne_iff_ne.mpr c1
    clear c1
    simp only [Option.some.injEq, Prod.mk.injEq] at H
    obtain ⟨rfl, rfl, rfl, rfl⟩ := H
    go_enter Tryd.func17, Tryd.ntmps17
    go_wp2_with (first | ((with_reducible refine gate_dst (N := 2) rfl ?_); refine box_event ?hg (N := 2) ?hd (cs := #[.int .i64 0, .int .i64 0, .int .i64 0]) (t := 27) ?hr ?_; (case hd => rfl); (case hg => rfl); (case hr => first | (go_simp; done) | (go_simp; rfl)); intro gb hg w3 hbox hb; have n0_ := Aside0.mk (below_step (by repeat (first | (with_reducible first | exact HB.out | apply below_alloc | apply pw_below_drewN | apply below_drew1) | exact HB.out)) hb); have n1_ := Aside0.mk (hbox); have n2_ := Aside0.mk ((by rw [hg]; exact (below_size (by repeat (first | (with_reducible first | exact HB.out | apply below_alloc | apply pw_below_drewN | apply below_drew1) | exact HB.out))) : w.heap.size ≤ gb)); clear HB; have HB := n0_; have BK := n1_; have GE := n2_; clear n0_ n1_ n2_ hb hbox hg) | ((with_reducible refine gate_callee (f := 55) rfl ?_); refine goesL_ (some 12) rfl rfl Tryd.func55 (by kernel_rfl) rfl #[.string s, .string ⟨#[45]⟩] rfl (by (try simp only [List.map_toArray, List.map_cons, List.map_nil]); first | done | rfl) ?_; (with_reducible refine (split3_calls s ⟨#[45]⟩ a b c _ HS.out sep_one HP.out (tabAt_on hT (by repeat (first | (with_reducible first | exact HB.out | apply below_alloc | apply pw_below_drewN | apply below_drew1 | refine below_set ?_ GE.out) | exact HB.out)))).mono ?_); rintro e w5 ⟨g, rfl, hca, hcb, hcc, hb5⟩; refine ⟨_, rfl, ?_⟩; have n0_ := Aside0.mk (below_step (by repeat (first | (with_reducible first | exact HB.out | apply below_alloc | apply pw_below_drewN | apply below_drew1 | refine below_set ?_ GE.out) | exact HB.out)) hb5); have n1_ := Aside0.mk (blk_below (g := gb) (o := .cells #[.int .i64 0, .int .i64 0, .int .i64 0] 27 (0, 0)) (by (with_reducible repeat (first | refine blk_drewN ?_ _ | refine blk_drew ?_ | refine blk_alloc ?_ _)); exact BK.out) hb5); clear HB BK hb5; have HB := n0_; have BK := n1_; clear n0_ n1_; have hz0 : w5.cell? ⟨gb, 0, none⟩ = some (.int .i64 0) := (blk_cell BK.out 0).trans rfl; have hz1 : w5.cell? ⟨gb, 1, none⟩ = some (.int .i64 0) := (blk_cell BK.out 1).trans rfl; have hz2 : w5.cell? ⟨gb, 2, none⟩ = some (.int .i64 0) := (blk_cell BK.out 2).trans rfl; have hf0 := blk_frozen BK.out 0; have hf1 := blk_frozen BK.out 1; have hf2 := blk_frozen BK.out 2))
    refine bodyPost_ret (results_ct rfl _ _ gb 27 #[.int .i64 0, .int .i64 0, .int .i64 0] (0, 0) _ rfl (by (with_reducible repeat (first | refine blk_drewN ?_ _ | refine blk_drew ?_ | refine blk_alloc ?_ _)); refine blk_put (cs := #[.int .i64 0, .int .i64 0, .int .i64 0]) ?_ 2 _ rfl; (with_reducible repeat (first | refine blk_drewN ?_ _ | refine blk_drew ?_ | refine blk_alloc ?_ _)); refine blk_put (cs := #[.int .i64 0, .int .i64 0, .int .i64 0]) ?_ 1 _ rfl; (with_reducible repeat (first | refine blk_drewN ?_ _ | refine blk_drew ?_ | refine blk_alloc ?_ _)); refine blk_put (cs := #[.int .i64 0, .int .i64 0, .int .i64 0]) ?_ 0 _ rfl; (with_reducible repeat (first | refine blk_drewN ?_ _ | refine blk_drew ?_ | refine blk_alloc ?_ _)); exact BK.out) Tryd.underlying27 rfl (by kernel_rfl)) rfl ?_
    exact ⟨by first | rfl | (simp; done) | (simp [*]; done), by repeat (first | (with_reducible first | exact HB.out | apply below_alloc | apply pw_below_drewN | apply below_drew1 | refine below_set ?_ GE.out) | exact HB.out)⟩
set_option maxHeartbeats 8000000 in
set_option maxRecDepth 100000 in
theorem impl_ReadDate.calls_n (s : ByteArray) (w : World) (hs : s.size < 4294967281) (hsp : (Lib.splitB (⟨#[45]⟩ : ByteArray) 0 (Lib.countB s (⟨#[45]⟩ : ByteArray)) s).length ≠ 3) (hT : Aside0 (TabAt w)) :
    Calls Tryd.prog 17 #[.string s] w fun e w' => e = .returned (.tuple #[.agg #[.int .i64 0, .int .i64 0, .int .i64 0], .int .i64 6]) ∧ Below w.heap.size w w' := by
  have hu28 := Tryd.underlying27
  have HB := Aside0.mk (Below.refl w.heap.size w)
  have HS := Aside0.mk hs
  have HP := Aside0.mk hsp
  clear hs hsp
  go_enter Tryd.func17, Tryd.ntmps17
  go_wp2_with (first | ((with_reducible refine gate_dst (N := 2) rfl ?_); refine box_event ?hg (N := 2) ?hd (cs := #[.int .i64 0, .int .i64 0, .int .i64 0]) (t := 27) ?hr ?_; (case hd => rfl); (case hg => rfl); (case hr => first | (go_simp; done) | (go_simp; rfl)); intro gb hg w3 hbox hb; have n0_ := Aside0.mk (below_step (by repeat (first | (with_reducible first | exact HB.out | apply below_alloc | apply pw_below_drewN | apply below_drew1) | exact HB.out)) hb); have n1_ := Aside0.mk (hbox); have n2_ := Aside0.mk ((by rw [hg]; exact (below_size (by repeat (first | (with_reducible first | exact HB.out | apply below_alloc | apply pw_below_drewN | apply below_drew1) | exact HB.out))) : w.heap.size ≤ gb)); clear HB; have HB := n0_; have BK := n1_; have GE := n2_; clear n0_ n1_ n2_ hb hbox hg) | ((with_reducible refine gate_callee (f := 55) rfl ?_); refine goesL_ (some 12) rfl rfl Tryd.func55 (by kernel_rfl) rfl #[.string s, .string ⟨#[45]⟩] rfl (by (try simp only [List.map_toArray, List.map_cons, List.map_nil]); first | done | rfl) ?_; (with_reducible refine (splitN_calls s ⟨#[45]⟩ _ HS.out sep_one HP.out (tabAt_on hT (by repeat (first | (with_reducible first | exact HB.out | apply below_alloc | apply pw_below_drewN | apply below_drew1 | refine below_set ?_ GE.out) | exact HB.out)))).mono ?_); rintro e w5 ⟨g, n, hn, rfl, hb5⟩; refine ⟨_, rfl, ?_⟩; have n0_ := Aside0.mk (below_step (by repeat (first | (with_reducible first | exact HB.out | apply below_alloc | apply pw_below_drewN | apply below_drew1 | refine below_set ?_ GE.out) | exact HB.out)) hb5); have n1_ := Aside0.mk (blk_below (g := gb) (o := .cells #[.int .i64 0, .int .i64 0, .int .i64 0] 27 (0, 0)) (by (with_reducible repeat (first | refine blk_drewN ?_ _ | refine blk_drew ?_ | refine blk_alloc ?_ _)); exact BK.out) hb5); clear HB BK hb5; have HB := n0_; have BK := n1_; clear n0_ n1_; have hz0 : w5.cell? ⟨gb, 0, none⟩ = some (.int .i64 0) := (blk_cell BK.out 0).trans rfl; have hz1 : w5.cell? ⟨gb, 1, none⟩ = some (.int .i64 0) := (blk_cell BK.out 1).trans rfl; have hz2 : w5.cell? ⟨gb, 2, none⟩ = some (.int .i64 0) := (blk_cell BK.out 2).trans rfl; have hf0 := blk_frozen BK.out 0; have hf1 := blk_frozen BK.out 1; have hf2 := blk_frozen BK.out 2; have hnb : ((n : Int) == 3) = false := beq_eq_false_iff_ne.mpr (by omega); have hnc : ((n : Int) != 3) = true := bne_iff_ne.mpr (by omega); clear hn))
  refine bodyPost_ret (results_ct rfl _ _ gb 27 #[.int .i64 0, .int .i64 0, .int .i64 0] (0, 0) _ rfl (by (with_reducible repeat (first | refine blk_drewN ?_ _ | refine blk_drew ?_ | refine blk_alloc ?_ _)); refine blk_put (cs := #[.int .i64 0, .int .i64 0, .int .i64 0]) ?_ 2 _ rfl; (with_reducible repeat (first | refine blk_drewN ?_ _ | refine blk_drew ?_ | refine blk_alloc ?_ _)); refine blk_put (cs := #[.int .i64 0, .int .i64 0, .int .i64 0]) ?_ 1 _ rfl; (with_reducible repeat (first | refine blk_drewN ?_ _ | refine blk_drew ?_ | refine blk_alloc ?_ _)); refine blk_put (cs := #[.int .i64 0, .int .i64 0, .int .i64 0]) ?_ 0 _ rfl; (with_reducible repeat (first | refine blk_drewN ?_ _ | refine blk_drew ?_ | refine blk_alloc ?_ _)); exact BK.out) Tryd.underlying27 rfl (by kernel_rfl)) rfl ?_
  exact ⟨by first | rfl | (simp; done) | (simp [*]; done), by repeat (first | (with_reducible first | exact HB.out | apply below_alloc | apply pw_below_drewN | apply below_drew1 | refine below_set ?_ GE.out) | exact HB.out)⟩
theorem impl_ReadDate.calls (k : Nat) (a0 : ByteArray) (r1 r2 r3 r4 : Int) (w : World) (h : impl_ReadDate.f k a0 = some (r1, r2, r3, r4)) (hT : Aside0 (TabAt w)) :
    Calls Tryd.prog 17 #[.string a0] w fun e w' => e = .returned (.tuple #[.agg #[.int .i64 r1, .int .i64 r2, .int .i64 r3], .int .i64 r4]) ∧ Below w.heap.size w w' := by
  unfold impl_ReadDate.f at h
  by_cases c : a0.size < 4294967281
  · rw [if_pos c] at h
    split at h
    · rename_i a b d hsp
      exact impl_ReadDate.calls_p k a0 a b d r1 r2 r3 r4 w h c hsp hT
    · rename_i hsp
      simp only [Option.some.injEq, Prod.mk.injEq] at h
      obtain ⟨rfl, rfl, rfl, rfl⟩ := h
      exact impl_ReadDate.calls_n a0 w c (fun e => by
        generalize Lib.splitB (⟨#[45]⟩ : ByteArray) 0 (Lib.countB a0 (⟨#[45]⟩ : ByteArray)) a0 = l at hsp e
        match l, e, hsp with
        | [x, y, z], _, hsp => exact hsp x y z rfl) hT
  · rw [if_neg c] at h
    exact absurd h (by simp)

/-! ### spec_ReadDate: function 18 -/
def spec_ReadDate.l0 : Nat → ByteArray → Int → Int → Option (Int × Int × Int × Int)
  | 0, _, _, _ => none
  | k + 1, x0, x4, x5 => if x5 < 10 then (if x5 = 4 then (spec_ReadDate.l0 k x0 x4 (wrap64 (x5 + 1))) else (if x5 = 7 then (spec_ReadDate.l0 k x0 x4 (wrap64 (x5 + 1))) else (if 0 ≤ x5 then (if x5 < (x0.size : Int) then (spec_ReadDate.l0 k x0 (wrap64 ((wrap64 ((wrap64 (10 * x4)) + (wrap64 (bt x0 x5)))) - 48)) (wrap64 (x5 + 1))) else (none)) else (none)))) else ((spec_IsDate.f (wrap64 (Int.tdiv x4 10000)) (Int.tmod (wrap64 (Int.tdiv x4 100)) 100) (Int.tmod x4 100)).bind fun t355 => (if t355 = true then ((spec_l07Text.f k (wrap64 (Int.tdiv x4 10000)) (Int.tmod (wrap64 (Int.tdiv x4 100)) 100) (Int.tmod x4 100)).bind fun t356 => (if t356.toList = x0.toList then (some (wrap64 (Int.tdiv x4 10000), Int.tmod (wrap64 (Int.tdiv x4 100)) 100, Int.tmod x4 100, 0)) else (some (0, 0, 0, 6)))) else (some (0, 0, 0, 6))))
def spec_ReadDate.f (k : Nat) (a0 : ByteArray) : Option (Int × Int × Int × Int) := if (a0.size : Int) = 10 then (spec_ReadDate.l0 k a0 0 0) else (some (0, 0, 0, 6))
theorem spec_ReadDate.mono_l : ∀ k, (∀ y0 y1 y2, LeO (spec_ReadDate.l0 k y0 y1 y2) (spec_ReadDate.l0 (k + 1) y0 y1 y2))
  | 0 => fun _ _ _ r h => by simp [spec_ReadDate.l0] at h
  | k + 1 => by
    have ih0 := spec_ReadDate.mono_l k
    · intro y0 y1 y2
      unfold spec_ReadDate.l0
      repeat' first
      | (with_reducible exact ih0 _ _ _)
      | (with_reducible exact spec_l07Text.mono _ _ _ _)
      | (with_reducible exact LeO.refl _)
      | (with_reducible exact LeO.none _)
      | (with_reducible refine LeO.ite ?_ ?_)
      | (with_reducible refine LeO.bind ?_ (fun _ => ?_))
      | exact ih0 _ _ _
      | exact spec_l07Text.mono _ _ _ _
      | exact LeO.none _
      | refine LeO.ite ?_ ?_
      | refine LeO.bind ?_ (fun _ => ?_)
theorem spec_ReadDate.mono : ∀ a0 k, LeO (spec_ReadDate.f k a0) (spec_ReadDate.f (k + 1) a0) := by
  intro a0 k
  have ih0 := spec_ReadDate.mono_l k
  unfold spec_ReadDate.f
  repeat' first
      | (with_reducible exact ih0 _ _ _)
      | (with_reducible exact spec_l07Text.mono _ _ _ _)
      | (with_reducible exact LeO.refl _)
      | (with_reducible exact LeO.none _)
      | (with_reducible refine LeO.ite ?_ ?_)
      | (with_reducible refine LeO.bind ?_ (fun _ => ?_))
      | exact ih0 _ _ _
      | exact spec_l07Text.mono _ _ _ _
      | exact LeO.none _
      | refine LeO.ite ?_ ?_
      | refine LeO.bind ?_ (fun _ => ?_)
set_option maxHeartbeats 8000000 in
set_option maxRecDepth 100000 in
theorem spec_ReadDate.calls (k : Nat) (a0 : ByteArray) (r1 : Int) (r2 : Int) (r3 : Int) (r4 : Int) (w : World) (h : spec_ReadDate.f k a0 = some (r1, r2, r3, r4)) :
    Calls Tryd.prog 18 #[.string a0] w fun e w' => e = .returned (.tuple #[.agg #[.int .i64 r1, .int .i64 r2, .int .i64 r3], .int .i64 r4]) ∧ Below w.heap.size w w' := by
  have hu27 := Tryd.underlying27
  have HB := Aside0.mk (Below.refl w.heap.size w)
  have H : (if (a0.size : Int) = 10 then (spec_ReadDate.l0 k a0 0 0) else (some (0, 0, 0, 6))) = some (r1, r2, r3, r4) := h
  clear h
  by_cases c2 : (a0.size : Int) = 10
  · rw [if_pos c2] at H
    have c2b0 : ((a0.size : Int) == 10) = true := beq_iff_eq.mpr c2
    have c2b1 : ((a0.size : Int) != 10) = false := bne_eq_false_iff_eq.mpr c2
    clear c2
    have H' := Aside0.mk H
    clear H
    go_enter Tryd.func18, Tryd.ntmps18
    go_wp2_with (first | ((with_reducible refine gate_dst (N := 2) rfl ?_); refine box_event ?hg (N := 2) ?hd (cs := #[.int .i64 0, .int .i64 0, .int .i64 0]) (t := 27) ?hr ?_; (case hd => rfl); (case hg => rfl); (case hr => first | (go_simp; done) | (go_simp; rfl)); intro gb353 hg w3 hbox hb; have n0_ := Aside0.mk (below_step (by repeat (first | (with_reducible first | exact HB.out | apply below_alloc | apply pw_below_drewN | apply below_drew1) | exact HB.out)) hb); have n1_ := Aside0.mk (hbox); have n2_ := Aside0.mk ((by rw [hg]; exact (below_size (by repeat (first | (with_reducible first | exact HB.out | apply below_alloc | apply pw_below_drewN | apply below_drew1) | exact HB.out))) : w.heap.size ≤ gb353)); have n3_ := Aside0.mk ((by rw [hg]; exact (below_size (by repeat (first | (with_reducible first | exact HB.out | apply below_alloc | apply pw_below_drewN | apply below_drew1) | exact HB.out))) : w.heap.size ≤ gb353)); clear HB; have HB := n0_; have BK353 := n1_; have GW353 := n2_; have GE353 := n3_; clear n0_ n1_ n2_ n3_; clear hb hbox hg))
    go_loopg [4, 5] k (fun kq v4 v5 w' => ∃ (x4_1 : Int) (x5_1 : Int), v4 = .int .i64 x4_1 ∧ v5 = .int .i64 x5_1 ∧ Aside0 (spec_ReadDate.l0 kq a0 x4_1 x5_1 = some (r1, r2, r3, r4)) ∧ Aside0 (kq ≤ k) ∧ Aside0 (w'.heap[gb353]? = some (.cells #[.int .i64 0, .int .i64 0, .int .i64 0] 27 (0, 0))) ∧ Aside0 (Below w.heap.size w w'))
    case atStart => exact ⟨(0), (0), (by first | rfl | (simp; done) | (simp [*]; done)), (by first | rfl | (simp; done) | (simp [*]; done)), H', ⟨Nat.le_refl _⟩, ⟨by (with_reducible repeat (first | refine blk_drewN ?_ _ | refine blk_drew ?_ | refine blk_alloc ?_ _)); exact BK353.out⟩, ⟨by repeat (first | (with_reducible first | exact HB.out | apply below_alloc | apply pw_below_drewN | apply below_drew1 | refine below_set ?_ GE353.out) | exact HB.out)⟩⟩
    case round =>
      clear H'
      try clear c1
      try clear c2
      try clear c2b0
      try clear c2b1
      try clear p2
      obtain ⟨x4_1, x5_1, rfl, rfl, HA, HK1, BK353, HB⟩ := hrel
      cases gk with
      | zero => exact absurd HA.out (by simp [spec_ReadDate.l0])
      | succ k1 =>
        have H := HA.out
        clear HA
        simp only [spec_ReadDate.l0] at H
        by_cases c4 : x5_1 < 10
        · rw [if_pos c4] at H
          have c4b0 : decide (x5_1 < 10) = true := decide_eq_true c4
          clear c4
          by_cases c5 : x5_1 = 4
          · rw [if_pos c5] at H
            have c5b0 : (x5_1 == 4) = true := beq_iff_eq.mpr c5
            have c5b1 : (x5_1 != 4) = false := bne_eq_false_iff_eq.mpr c5
            clear c5
            have H' := Aside0.mk H
            clear H
            go_wp2
            go_roundg k1
            case measure => have := HK1.out; omega
            case rel => exact ⟨(x4_1), (wrap64 (x5_1 + 1)), (by first | rfl | (simp; done) | (simp [*]; done)), (by first | rfl | (simp; done) | (simp [*]; done)), H', ⟨by have := HK1.out; omega⟩, ⟨by (with_reducible repeat (first | refine blk_drewN ?_ _ | refine blk_drew ?_ | refine blk_alloc ?_ _)); exact BK353.out⟩, ⟨by repeat (first | (with_reducible first | exact HB.out | apply below_alloc | apply pw_below_drewN | apply below_drew1 | refine below_set ?_ GE353.out) | exact HB.out)⟩⟩
          · rw [if_neg c5] at H
            have c5b0 : (x5_1 == 4) = false := beq_eq_false_iff_ne.mpr c5
            have c5b1 : (x5_1 != 4) = true := bne_iff_ne.mpr c5
            by_cases c6 : x5_1 = 7
            · rw [if_pos c6] at H
              have c6b0 : (x5_1 == 7) = true := beq_iff_eq.mpr c6
              have c6b1 : (x5_1 != 7) = false := bne_eq_false_iff_eq.mpr c6
              clear c6
              have H' := Aside0.mk H
              clear H
              go_wp2
              go_roundg k1
              case measure => have := HK1.out; omega
              case rel => exact ⟨(x4_1), (wrap64 (x5_1 + 1)), (by first | rfl | (simp; done) | (simp [*]; done)), (by first | rfl | (simp; done) | (simp [*]; done)), H', ⟨by have := HK1.out; omega⟩, ⟨by (with_reducible repeat (first | refine blk_drewN ?_ _ | refine blk_drew ?_ | refine blk_alloc ?_ _)); exact BK353.out⟩, ⟨by repeat (first | (with_reducible first | exact HB.out | apply below_alloc | apply pw_below_drewN | apply below_drew1 | refine below_set ?_ GE353.out) | exact HB.out)⟩⟩
            · rw [if_neg c6] at H
              have c6b0 : (x5_1 == 7) = false := beq_eq_false_iff_ne.mpr c6
              have c6b1 : (x5_1 != 7) = true := bne_iff_ne.mpr c6
              by_cases c7 : 0 ≤ x5_1
              · rw [if_pos c7] at H
                have c7b0 : decide (0 ≤ x5_1) = true := decide_eq_true c7
                clear c7
                by_cases c8 : x5_1 < (a0.size : Int)
                · rw [if_pos c8] at H
                  have c8b0 : decide (x5_1 < (a0.size : Int)) = true := decide_eq_true c8
                  clear c8
                  have H' := Aside0.mk H
                  clear H
                  have p9 : 0 ≤ (x5_1 : Int) := of_decide_eq_true (by first | (with_reducible assumption) | assumption)
                  have q9 : x5_1 < (a0.size : Int) := of_decide_eq_true (by first | (with_reducible assumption) | assumption)
                  have hx9 := bt_at a0 x5_1
                  replace p9 := eq_true p9
                  replace q9 := eq_true q9
                  go_wp2
                  go_roundg k1
                  case measure => have := HK1.out; omega
                  case rel => exact ⟨(wrap64 ((wrap64 ((wrap64 (10 * x4_1)) + (wrap64 (bt a0 x5_1)))) - 48)), (wrap64 (x5_1 + 1)), (by first | rfl | (simp; done) | (simp [*]; done)), (by first | rfl | (simp; done) | (simp [*]; done)), H', ⟨by have := HK1.out; omega⟩, ⟨by (with_reducible repeat (first | refine blk_drewN ?_ _ | refine blk_drew ?_ | refine blk_alloc ?_ _)); exact BK353.out⟩, ⟨by repeat (first | (with_reducible first | exact HB.out | apply below_alloc | apply pw_below_drewN | apply below_drew1 | refine below_set ?_ GE353.out) | exact HB.out)⟩⟩
                · rw [if_neg c8] at H
                  exact absurd H (by simp)
              · rw [if_neg c7] at H
                exact absurd H (by simp)
        · rw [if_neg c4] at H
          have c4b0 : decide (x5_1 < 10) = false := decide_eq_false c4
          clear c4
          replace H := Option.bind_eq_some_iff.mp H
          obtain ⟨t355, A100, H⟩ := H
          replace H : (if t355 = true then ((spec_l07Text.f k1 (wrap64 (Int.tdiv x4_1 10000)) (Int.tmod (wrap64 (Int.tdiv x4_1 100)) 100) (Int.tmod x4_1 100)).bind fun t356 => (if t356.toList = a0.toList then (some (wrap64 (Int.tdiv x4_1 10000), Int.tmod (wrap64 (Int.tdiv x4_1 100)) 100, Int.tmod x4_1 100, 0)) else (some (0, 0, 0, 6)))) else (some (0, 0, 0, 6))) = some (r1, r2, r3, r4) := H
          have A10 := Aside0.mk A100
          clear A100
          by_cases c11 : t355 = true
          · subst c11
            have H1 : ((spec_l07Text.f k1 (wrap64 (Int.tdiv x4_1 10000)) (Int.tmod (wrap64 (Int.tdiv x4_1 100)) 100) (Int.tmod x4_1 100)).bind fun t356 => (if t356.toList = a0.toList then (some (wrap64 (Int.tdiv x4_1 10000), Int.tmod (wrap64 (Int.tdiv x4_1 100)) 100, Int.tmod x4_1 100, 0)) else (some (0, 0, 0, 6)))) = some (r1, r2, r3, r4) := by rw [if_pos rfl] at H; exact H
            clear H
            have H := H1
            clear H1
            replace H := Option.bind_eq_some_iff.mp H
            obtain ⟨t356, A120, H⟩ := H
            replace H : (if t356.toList = a0.toList then (some (wrap64 (Int.tdiv x4_1 10000), Int.tmod (wrap64 (Int.tdiv x4_1 100)) 100, Int.tmod x4_1 100, 0)) else (some (0, 0, 0, 6))) = some (r1, r2, r3, r4) := H
            have A12 := Aside0.mk A120
            clear A120
            by_cases c13 : t356.toList = a0.toList
            · rw [if_pos c13] at H
              have c13b0 : (t356.toList == a0.toList) = true := beq_iff_eq.mpr c13
              have c13b1 : (t356.toList != a0.toList) = false := bne_eq_false_iff_eq.mpr c13
              clear c13
              simp only [Option.some.injEq, Prod.mk.injEq] at H
              obtain ⟨rfl, rfl, rfl, rfl⟩ := H
              go_wp2_with (first | ((with_reducible refine gate_dst (N := 6) rfl ?_); refine box_event ?hg (N := 6) ?hd (cs := #[.int .i64 0, .int .i64 0, .int .i64 0]) (t := 27) ?hr ?_; (case hd => rfl); (case hg => rfl); (case hr => first | (go_simp; done) | (go_simp; rfl)); intro gb354 hg w14 hbox hb; have n0_ := Aside0.mk (blk_below (g := gb353) (o := .cells #[.int .i64 0, .int .i64 0, .int .i64 0] 27 (0, 0)) (by (with_reducible repeat (first | refine blk_drewN ?_ _ | refine blk_drew ?_ | refine blk_alloc ?_ _)); exact BK353.out) hb); have n1_ := Aside0.mk (below_step (by repeat (first | (with_reducible first | exact HB.out | apply below_alloc | apply pw_below_drewN | apply below_drew1 | refine below_set ?_ GE353.out) | exact HB.out)) hb); have n2_ := Aside0.mk (hbox); have n3_ := Aside0.mk ((by rw [hg]; exact (below_size (by repeat (first | (with_reducible first | exact HB.out | apply below_alloc | apply pw_below_drewN | apply below_drew1 | refine below_set ?_ GE353.out) | exact HB.out))) : w.heap.size ≤ gb354)); have n4_ := Aside0.mk ((by rw [hg]; exact (below_size (by repeat (first | (with_reducible first | exact HB.out | apply below_alloc | apply pw_below_drewN | apply below_drew1 | refine below_set ?_ GE353.out) | exact HB.out))) : w.heap.size ≤ gb354)); have n5_ := Aside0.mk ((by rw [hg]; exact Nat.ne_of_lt (blk_lt (g := gb353) (o := .cells #[.int .i64 0, .int .i64 0, .int .i64 0] 27 (0, 0)) (by (with_reducible repeat (first | refine blk_drewN ?_ _ | refine blk_drew ?_ | refine blk_alloc ?_ _)); exact BK353.out)) : gb353 ≠ gb354)); have n6_ := Aside0.mk ((by rw [hg]; exact Nat.ne_of_gt (blk_lt (g := gb353) (o := .cells #[.int .i64 0, .int .i64 0, .int .i64 0] 27 (0, 0)) (by (with_reducible repeat (first | refine blk_drewN ?_ _ | refine blk_drew ?_ | refine blk_alloc ?_ _)); exact BK353.out)) : gb354 ≠ gb353)); clear BK353; clear HB; have BK353 := n0_; have HB := n1_; have BK354 := n2_; have GW354 := n3_; have GE354 := n4_; have NB353_354 := n5_; have NB354_353 := n6_; clear n0_ n1_ n2_ n3_ n4_ n5_ n6_; clear hb hbox hg; have hnb15 := NB354_353.out; have hnc15 := NB353_354.out; have hcz16_0 : w14.cell? ⟨gb354, 0, none⟩ = some (.int .i64 0) := (blk_cell BK354.out 0).trans rfl; have hcz16_1 : w14.cell? ⟨gb354, 1, none⟩ = some (.int .i64 0) := (blk_cell BK354.out 1).trans rfl; have hcz16_2 : w14.cell? ⟨gb354, 2, none⟩ = some (.int .i64 0) := (blk_cell BK354.out 2).trans rfl; have hfz16_0 := blk_frozen BK354.out 0; have hfz16_1 := blk_frozen BK354.out 1; have hfz16_2 := blk_frozen BK354.out 2) | ((with_reducible refine gate_callee (f := 51) rfl ?_); refine goesL_ (some 38) rfl rfl Tryd.func51 (by kernel_rfl) rfl #[.agg #[.int .i64 (wrap64 (Int.tdiv x4_1 10000)), .int .i64 (Int.tmod (wrap64 (Int.tdiv x4_1 100)) 100), .int .i64 (Int.tmod x4_1 100)]] rfl (by (try simp only [List.map_toArray, List.map_cons, List.map_nil]); first | done | rfl | (simp only [List.length_drop, List.length_take]; rfl)) ?_; (with_reducible refine (spec_IsDate.calls (wrap64 (Int.tdiv x4_1 10000)) (Int.tmod (wrap64 (Int.tdiv x4_1 100)) 100) (Int.tmod x4_1 100) true _ A10.out).mono ?_); rintro e w17 ⟨rfl, hb⟩; refine ⟨_, rfl, ?_⟩; have n0_ := Aside0.mk (blk_below (g := gb353) (o := .cells #[.int .i64 0, .int .i64 0, .int .i64 0] 27 (0, 0)) (by (with_reducible repeat (first | refine blk_drewN ?_ _ | refine blk_drew ?_ | refine blk_alloc ?_ _)); refine blk_far ?_ NB353_354.out _; (with_reducible repeat (first | refine blk_drewN ?_ _ | refine blk_drew ?_ | refine blk_alloc ?_ _)); refine blk_far ?_ NB353_354.out _; (with_reducible repeat (first | refine blk_drewN ?_ _ | refine blk_drew ?_ | refine blk_alloc ?_ _)); refine blk_far ?_ NB353_354.out _; (with_reducible repeat (first | refine blk_drewN ?_ _ | refine blk_drew ?_ | refine blk_alloc ?_ _)); exact BK353.out) hb); have n1_ := Aside0.mk (blk_below (g := gb354) (o := .cells #[.int .i64 (wrap64 (Int.tdiv x4_1 10000)), .int .i64 (Int.tmod (wrap64 (Int.tdiv x4_1 100)) 100), .int .i64 (Int.tmod x4_1 100)] 27 (0, 0)) (by (with_reducible repeat (first | refine blk_drewN ?_ _ | refine blk_drew ?_ | refine blk_alloc ?_ _)); refine blk_put (cs := #[.int .i64 (wrap64 (Int.tdiv x4_1 10000)), .int .i64 (Int.tmod (wrap64 (Int.tdiv x4_1 100)) 100), .int .i64 0]) ?_ 2 _ rfl; (with_reducible repeat (first | refine blk_drewN ?_ _ | refine blk_drew ?_ | refine blk_alloc ?_ _)); refine blk_put (cs := #[.int .i64 (wrap64 (Int.tdiv x4_1 10000)), .int .i64 0, .int .i64 0]) ?_ 1 _ rfl; (with_reducible repeat (first | refine blk_drewN ?_ _ | refine blk_drew ?_ | refine blk_alloc ?_ _)); refine blk_put (cs := #[.int .i64 0, .int .i64 0, .int .i64 0]) ?_ 0 _ rfl; (with_reducible repeat (first | refine blk_drewN ?_ _ | refine blk_drew ?_ | refine blk_alloc ?_ _)); exact BK354.out) hb); have n2_ := Aside0.mk (below_step (by repeat (first | (with_reducible first | exact HB.out | apply below_alloc | apply pw_below_drewN | apply below_drew1 | refine below_set ?_ GE353.out | refine below_set ?_ GE354.out) | exact HB.out)) hb); clear BK353; clear BK354; clear HB; have BK353 := n0_; have BK354 := n1_; have HB := n2_; clear n0_ n1_ n2_; (try clear hb); (try clear hb2); (try clear hk); (try clear hi); have hcz18_0 : w17.cell? ⟨gb354, 0, none⟩ = some (.int .i64 (wrap64 (Int.tdiv x4_1 10000))) := (blk_cell BK354.out 0).trans rfl; have hcz18_1 : w17.cell? ⟨gb354, 1, none⟩ = some (.int .i64 (Int.tmod (wrap64 (Int.tdiv x4_1 100)) 100)) := (blk_cell BK354.out 1).trans rfl; have hcz18_2 : w17.cell? ⟨gb354, 2, none⟩ = some (.int .i64 (Int.tmod x4_1 100)) := (blk_cell BK354.out 2).trans rfl; have hfz18_0 := blk_frozen BK354.out 0; have hfz18_1 := blk_frozen BK354.out 1; have hfz18_2 := blk_frozen BK354.out 2) | (go_at_call 52; (with_reducible refine (spec_l07Text.calls k1 (wrap64 (Int.tdiv x4_1 10000)) (Int.tmod (wrap64 (Int.tdiv x4_1 100)) 100) (Int.tmod x4_1 100) t356 _ A12.out).mono ?_); rintro e w19 ⟨rfl, hb⟩; have n0_ := Aside0.mk (blk_below (g := gb353) (o := .cells #[.int .i64 0, .int .i64 0, .int .i64 0] 27 (0, 0)) (by (with_reducible repeat (first | refine blk_drewN ?_ _ | refine blk_drew ?_ | refine blk_alloc ?_ _)); exact BK353.out) hb); have n1_ := Aside0.mk (blk_below (g := gb354) (o := .cells #[.int .i64 (wrap64 (Int.tdiv x4_1 10000)), .int .i64 (Int.tmod (wrap64 (Int.tdiv x4_1 100)) 100), .int .i64 (Int.tmod x4_1 100)] 27 (0, 0)) (by (with_reducible repeat (first | refine blk_drewN ?_ _ | refine blk_drew ?_ | refine blk_alloc ?_ _)); exact BK354.out) hb); have n2_ := Aside0.mk (below_step (by repeat (first | (with_reducible first | exact HB.out | apply below_alloc | apply pw_below_drewN | apply below_drew1 | refine below_set ?_ GE353.out | refine below_set ?_ GE354.out) | exact HB.out)) hb); clear BK353; clear BK354; clear HB; have BK353 := n0_; have BK354 := n1_; have HB := n2_; clear n0_ n1_ n2_; (try clear hb); (try clear hb2); (try clear hk); (try clear hi); have hcz20_0 : w19.cell? ⟨gb354, 0, none⟩ = some (.int .i64 (wrap64 (Int.tdiv x4_1 10000))) := (blk_cell BK354.out 0).trans rfl; have hcz20_1 : w19.cell? ⟨gb354, 1, none⟩ = some (.int .i64 (Int.tmod (wrap64 (Int.tdiv x4_1 100)) 100)) := (blk_cell BK354.out 1).trans rfl; have hcz20_2 : w19.cell? ⟨gb354, 2, none⟩ = some (.int .i64 (Int.tmod x4_1 100)) := (blk_cell BK354.out 2).trans rfl; have hfz20_0 := blk_frozen BK354.out 0; have hfz20_1 := blk_frozen BK354.out 1; have hfz20_2 := blk_frozen BK354.out 2; have hcz21_0 : w19.cell? ⟨gb353, 0, none⟩ = some (.int .i64 0) := (blk_cell BK353.out 0).trans rfl; have hcz21_1 : w19.cell? ⟨gb353, 1, none⟩ = some (.int .i64 0) := (blk_cell BK353.out 1).trans rfl; have hcz21_2 : w19.cell? ⟨gb353, 2, none⟩ = some (.int .i64 0) := (blk_cell BK353.out 2).trans rfl; have hfz21_0 := blk_frozen BK353.out 0; have hfz21_1 := blk_frozen BK353.out 1; have hfz21_2 := blk_frozen BK353.out 2))
              refine bodyPost_ret (results_ct rfl _ _ gb353 27 #[.int .i64 (wrap64 (Int.tdiv x4_1 10000)), .int .i64 (Int.tmod (wrap64 (Int.tdiv x4_1 100)) 100), .int .i64 (Int.tmod x4_1 100)] (0, 0) _ rfl (by (with_reducible repeat (first | refine blk_drewN ?_ _ | refine blk_drew ?_ | refine blk_alloc ?_ _)); refine blk_put (cs := #[.int .i64 (wrap64 (Int.tdiv x4_1 10000)), .int .i64 (Int.tmod (wrap64 (Int.tdiv x4_1 100)) 100), .int .i64 0]) ?_ 2 _ rfl; (with_reducible repeat (first | refine blk_drewN ?_ _ | refine blk_drew ?_ | refine blk_alloc ?_ _)); refine blk_put (cs := #[.int .i64 (wrap64 (Int.tdiv x4_1 10000)), .int .i64 0, .int .i64 0]) ?_ 1 _ rfl; (with_reducible repeat (first | refine blk_drewN ?_ _ | refine blk_drew ?_ | refine blk_alloc ?_ _)); refine blk_put (cs := #[.int .i64 0, .int .i64 0, .int .i64 0]) ?_ 0 _ rfl; (with_reducible repeat (first | refine blk_drewN ?_ _ | refine blk_drew ?_ | refine blk_alloc ?_ _)); exact BK353.out) Tryd.underlying27 rfl (by kernel_rfl)) rfl ?_
              exact ⟨by first | rfl | (simp [errW_none, errW_some] <;> rfl) | (simp [*, errW_none, errW_some] <;> rfl), by repeat (first | (with_reducible first | exact HB.out | apply below_alloc | apply pw_below_drewN | apply below_drew1 | refine below_set ?_ GE353.out | refine below_set ?_ GE354.out) | exact HB.out)⟩
            · rw [if_neg c13] at H
              have c13b0 : (t356.toList == a0.toList) = false := beq_eq_false_iff_ne.mpr c13
              have c13b1 : (t356.toList != a0.toList) = true := bne_iff_ne.mpr c13
              simp only [Option.some.injEq, Prod.mk.injEq] at H
              obtain ⟨rfl, rfl, rfl, rfl⟩ := H
              go_wp2_with (first | ((with_reducible refine gate_dst (N := 6) rfl ?_); refine box_event ?hg (N := 6) ?hd (cs := #[.int .i64 0, .int .i64 0, .int .i64 0]) (t := 27) ?hr ?_; (case hd => rfl); (case hg => rfl); (case hr => first | (go_simp; done) | (go_simp; rfl)); intro gb354 hg w22 hbox hb; have n0_ := Aside0.mk (blk_below (g := gb353) (o := .cells #[.int .i64 0, .int .i64 0, .int .i64 0] 27 (0, 0)) (by (with_reducible repeat (first | refine blk_drewN ?_ _ | refine blk_drew ?_ | refine blk_alloc ?_ _)); exact BK353.out) hb); have n1_ := Aside0.mk (below_step (by repeat (first | (with_reducible first | exact HB.out | apply below_alloc | apply pw_below_drewN | apply below_drew1 | refine below_set ?_ GE353.out) | exact HB.out)) hb); have n2_ := Aside0.mk (hbox); have n3_ := Aside0.mk ((by rw [hg]; exact (below_size (by repeat (first | (with_reducible first | exact HB.out | apply below_alloc | apply pw_below_drewN | apply below_drew1 | refine below_set ?_ GE353.out) | exact HB.out))) : w.heap.size ≤ gb354)); have n4_ := Aside0.mk ((by rw [hg]; exact (below_size (by repeat (first | (with_reducible first | exact HB.out | apply below_alloc | apply pw_below_drewN | apply below_drew1 | refine below_set ?_ GE353.out) | exact HB.out))) : w.heap.size ≤ gb354)); have n5_ := Aside0.mk ((by rw [hg]; exact Nat.ne_of_lt (blk_lt (g := gb353) (o := .cells #[.int .i64 0, .int .i64 0, .int .i64 0] 27 (0, 0)) (by (with_reducible repeat (first | refine blk_drewN ?_ _ | refine blk_drew ?_ | refine blk_alloc ?_ _)); exact BK353.out)) : gb353 ≠ gb354)); have n6_ := Aside0.mk ((by rw [hg]; exact Nat.ne_of_gt (blk_lt (g := gb353) (o := .cells #[.int .i64 0, .int .i64 0, .int .i64 0] 27 (0, 0)) (by (with_reducible repeat (first | refine blk_drewN ?_ _ | refine blk_drew ?_ | refine blk_alloc ?_ _)); exact BK353.out)) : gb354 ≠ gb353)); clear BK353; clear HB; have BK353 := n0_; have HB := n1_; have BK354 := n2_; have GW354 := n3_; have GE354 := n4_; have NB353_354 := n5_; have NB354_353 := n6_; clear n0_ n1_ n2_ n3_ n4_ n5_ n6_; clear hb hbox hg; have hnb23 := NB354_353.out; have hnc23 := NB353_354.out; have hcz24_0 : w22.cell? ⟨gb354, 0, none⟩ = some (.int .i64 0) := (blk_cell BK354.out 0).trans rfl; have hcz24_1 : w22.cell? ⟨gb354, 1, none⟩ = some (.int .i64 0) := (blk_cell BK354.out 1).trans rfl; have hcz24_2 : w22.cell? ⟨gb354, 2, none⟩ = some (.int .i64 0) := (blk_cell BK354.out 2).trans rfl; have hfz24_0 := blk_frozen BK354.out 0; have hfz24_1 := blk_frozen BK354.out 1; have hfz24_2 := blk_frozen BK354.out 2) | ((with_reducible refine gate_callee (f := 51) rfl ?_); refine goesL_ (some 38) rfl rfl Tryd.func51 (by kernel_rfl) rfl #[.agg #[.int .i64 (wrap64 (Int.tdiv x4_1 10000)), .int .i64 (Int.tmod (wrap64 (Int.tdiv x4_1 100)) 100), .int .i64 (Int.tmod x4_1 100)]] rfl (by (try simp only [List.map_toArray, List.map_cons, List.map_nil]); first | done | rfl | (simp only [List.length_drop, List.length_take]; rfl)) ?_; (with_reducible refine (spec_IsDate.calls (wrap64 (Int.tdiv x4_1 10000)) (Int.tmod (wrap64 (Int.tdiv x4_1 100)) 100) (Int.tmod x4_1 100) true _ A10.out).mono ?_); rintro e w25 ⟨rfl, hb⟩; refine ⟨_, rfl, ?_⟩; have n0_ := Aside0.mk (blk_below (g := gb353) (o := .cells #[.int .i64 0, .int .i64 0, .int .i64 0] 27 (0, 0)) (by (with_reducible repeat (first | refine blk_drewN ?_ _ | refine blk_drew ?_ | refine blk_alloc ?_ _)); refine blk_far ?_ NB353_354.out _; (with_reducible repeat (first | refine blk_drewN ?_ _ | refine blk_drew ?_ | refine blk_alloc ?_ _)); refine blk_far ?_ NB353_354.out _; (with_reducible repeat (first | refine blk_drewN ?_ _ | refine blk_drew ?_ | refine blk_alloc ?_ _)); refine blk_far ?_ NB353_354.out _; (with_reducible repeat (first | refine blk_drewN ?_ _ | refine blk_drew ?_ | refine blk_alloc ?_ _)); exact BK353.out) hb); have n1_ := Aside0.mk (blk_below (g := gb354) (o := .cells #[.int .i64 (wrap64 (Int.tdiv x4_1 10000)), .int .i64 (Int.tmod (wrap64 (Int.tdiv x4_1 100)) 100), .int .i64 (Int.tmod x4_1 100)] 27 (0, 0)) (by (with_reducible repeat (first | refine blk_drewN ?_ _ | refine blk_drew ?_ | refine blk_alloc ?_ _)); refine blk_put (cs := #[.int .i64 (wrap64 (Int.tdiv x4_1 10000)), .int .i64 (Int.tmod (wrap64 (Int.tdiv x4_1 100)) 100), .int .i64 0]) ?_ 2 _ rfl; (with_reducible repeat (first | refine blk_drewN ?_ _ | refine blk_drew ?_ | refine blk_alloc ?_ _)); refine blk_put (cs := #[.int .i64 (wrap64 (Int.tdiv x4_1 10000)), .int .i64 0, .int .i64 0]) ?_ 1 _ rfl; (with_reducible repeat (first | refine blk_drewN ?_ _ | refine blk_drew ?_ | refine blk_alloc ?_ _)); refine blk_put (cs := #[.int .i64 0, .int .i64 0, .int .i64 0]) ?_ 0 _ rfl; (with_reducible repeat (first | refine blk_drewN ?_ _ | refine blk_drew ?_ | refine blk_alloc ?_ _)); exact BK354.out) hb); have n2_ := Aside0.mk (below_step (by repeat (first | (with_reducible first | exact HB.out | apply below_alloc | apply pw_below_drewN | apply below_drew1 | refine below_set ?_ GE353.out | refine below_set ?_ GE354.out) | exact HB.out)) hb); clear BK353; clear BK354; clear HB; have BK353 := n0_; have BK354 := n1_; have HB := n2_; clear n0_ n1_ n2_; (try clear hb); (try clear hb2); (try clear hk); (try clear hi); have hcz26_0 : w25.cell? ⟨gb354, 0, none⟩ = some (.int .i64 (wrap64 (Int.tdiv x4_1 10000))) := (blk_cell BK354.out 0).trans rfl; have hcz26_1 : w25.cell? ⟨gb354, 1, none⟩ = some (.int .i64 (Int.tmod (wrap64 (Int.tdiv x4_1 100)) 100)) := (blk_cell BK354.out 1).trans rfl; have hcz26_2 : w25.cell? ⟨gb354, 2, none⟩ = some (.int .i64 (Int.tmod x4_1 100)) := (blk_cell BK354.out 2).trans rfl; have hfz26_0 := blk_frozen BK354.out 0; have hfz26_1 := blk_frozen BK354.out 1; have hfz26_2 := blk_frozen BK354.out 2) | (go_at_call 52; (with_reducible refine (spec_l07Text.calls k1 (wrap64 (Int.tdiv x4_1 10000)) (Int.tmod (wrap64 (Int.tdiv x4_1 100)) 100) (Int.tmod x4_1 100) t356 _ A12.out).mono ?_); rintro e w27 ⟨rfl, hb⟩; have n0_ := Aside0.mk (blk_below (g := gb353) (o := .cells #[.int .i64 0, .int .i64 0, .int .i64 0] 27 (0, 0)) (by (with_reducible repeat (first | refine blk_drewN ?_ _ | refine blk_drew ?_ | refine blk_alloc ?_ _)); exact BK353.out) hb); have n1_ := Aside0.mk (blk_below (g := gb354) (o := .cells #[.int .i64 (wrap64 (Int.tdiv x4_1 10000)), .int .i64 (Int.tmod (wrap64 (Int.tdiv x4_1 100)) 100), .int .i64 (Int.tmod x4_1 100)] 27 (0, 0)) (by (with_reducible repeat (first | refine blk_drewN ?_ _ | refine blk_drew ?_ | refine blk_alloc ?_ _)); exact BK354.out) hb); have n2_ := Aside0.mk (below_step (by repeat (first | (with_reducible first | exact HB.out | apply below_alloc | apply pw_below_drewN | apply below_drew1 | refine below_set ?_ GE353.out | refine below_set ?_ GE354.out) | exact HB.out)) hb); clear BK353; clear BK354; clear HB; have BK353 := n0_; have BK354 := n1_; have HB := n2_; clear n0_ n1_ n2_; (try clear hb); (try clear hb2); (try clear hk); (try clear hi); have hcz28_0 : w27.cell? ⟨gb353, 0, none⟩ = some (.int .i64 0) := (blk_cell BK353.out 0).trans rfl; have hcz28_1 : w27.cell? ⟨gb353, 1, none⟩ = some (.int .i64 0) := (blk_cell BK353.out 1).trans rfl; have hcz28_2 : w27.cell? ⟨gb353, 2, none⟩ = some (.int .i64 0) := (blk_cell BK353.out 2).trans rfl; have hfz28_0 := blk_frozen BK353.out 0; have hfz28_1 := blk_frozen BK353.out 1; have hfz28_2 := blk_frozen BK353.out 2))
              refine bodyPost_ret (results_ct rfl _ _ gb353 27 #[.int .i64 0, .int .i64 0, .int .i64 0] (0, 0) _ rfl (by (with_reducible repeat (first | refine blk_drewN ?_ _ | refine blk_drew ?_ | refine blk_alloc ?_ _)); refine blk_put (cs := #[.int .i64 0, .int .i64 0, .int .i64 0]) ?_ 2 _ rfl; (with_reducible repeat (first | refine blk_drewN ?_ _ | refine blk_drew ?_ | refine blk_alloc ?_ _)); refine blk_put (cs := #[.int .i64 0, .int .i64 0, .int .i64 0]) ?_ 1 _ rfl; (with_reducible repeat (first | refine blk_drewN ?_ _ | refine blk_drew ?_ | refine blk_alloc ?_ _)); refine blk_put (cs := #[.int .i64 0, .int .i64 0, .int .i64 0]) ?_ 0 _ rfl; (with_reducible repeat (first | refine blk_drewN ?_ _ | refine blk_drew ?_ | refine blk_alloc ?_ _)); exact BK353.out) Tryd.underlying27 rfl (by kernel_rfl)) rfl ?_
              exact ⟨by first | rfl | (simp [errW_none, errW_some] <;> rfl) | (simp [*, errW_none, errW_some] <;> rfl), by repeat (first | (with_reducible first | exact HB.out | apply below_alloc | apply pw_below_drewN | apply below_drew1 | refine below_set ?_ GE353.out | refine below_set ?_ GE354.out) | exact HB.out)⟩
          · replace c11 := Bool.eq_false_iff.mpr c11
            subst c11
            have H1 : (some (0, 0, 0, 6)) = some (r1, r2, r3, r4) := by rw [if_neg (show ¬ (false = true) by decide)] at H; exact H
            clear H
            have H := H1
            clear H1
            simp only [Option.some.injEq, Prod.mk.injEq] at H
            obtain ⟨rfl, rfl, rfl, rfl⟩ := H
            go_wp2_with (first | ((with_reducible refine gate_dst (N := 6) rfl ?_); refine box_event ?hg (N := 6) ?hd (cs := #[.int .i64 0, .int .i64 0, .int .i64 0]) (t := 27) ?hr ?_; (case hd => rfl); (case hg => rfl); (case hr => first | (go_simp; done) | (go_simp; rfl)); intro gb354 hg w29 hbox hb; have n0_ := Aside0.mk (blk_below (g := gb353) (o := .cells #[.int .i64 0, .int .i64 0, .int .i64 0] 27 (0, 0)) (by (with_reducible repeat (first | refine blk_drewN ?_ _ | refine blk_drew ?_ | refine blk_alloc ?_ _)); exact BK353.out) hb); have n1_ := Aside0.mk (below_step (by repeat (first | (with_reducible first | exact HB.out | apply below_alloc | apply pw_below_drewN | apply below_drew1 | refine below_set ?_ GE353.out) | exact HB.out)) hb); have n2_ := Aside0.mk (hbox); have n3_ := Aside0.mk ((by rw [hg]; exact (below_size (by repeat (first | (with_reducible first | exact HB.out | apply below_alloc | apply pw_below_drewN | apply below_drew1 | refine below_set ?_ GE353.out) | exact HB.out))) : w.heap.size ≤ gb354)); have n4_ := Aside0.mk ((by rw [hg]; exact (below_size (by repeat (first | (with_reducible first | exact HB.out | apply below_alloc | apply pw_below_drewN | apply below_drew1 | refine below_set ?_ GE353.out) | exact HB.out))) : w.heap.size ≤ gb354)); have n5_ := Aside0.mk ((by rw [hg]; exact Nat.ne_of_lt (blk_lt (g := gb353) (o := .cells #[.int .i64 0, .int .i64 0, .int .i64 0] 27 (0, 0)) (by (with_reducible repeat (first | refine blk_drewN ?_ _ | refine blk_drew ?_ | refine blk_alloc ?_ _)); exact BK353.out)) : gb353 ≠ gb354)); have n6_ := Aside0.mk ((by rw [hg]; exact Nat.ne_of_gt (blk_lt (g := gb353) (o := .cells #[.int .i64 0, .int .i64 0, .int .i64 0] 27 (0, 0)) (by (with_reducible repeat (first | refine blk_drewN ?_ _ | refine blk_drew ?_ | refine blk_alloc ?_ _)); exact BK353.out)) : gb354 ≠ gb353)); clear BK353; clear HB; have BK353 := n0_; have HB := n1_; have BK354 := n2_; have GW354 := n3_; have GE354 := n4_; have NB353_354 := n5_; have NB354_353 := n6_; clear n0_ n1_ n2_ n3_ n4_ n5_ n6_; clear hb hbox hg; have hnb30 := NB354_353.out; have hnc30 := NB353_354.out; have hcz31_0 : w29.cell? ⟨gb354, 0, none⟩ = some (.int .i64 0) := (blk_cell BK354.out 0).trans rfl; have hcz31_1 : w29.cell? ⟨gb354, 1, none⟩ = some (.int .i64 0) := (blk_cell BK354.out 1).trans rfl; have hcz31_2 : w29.cell? ⟨gb354, 2, none⟩ = some (.int .i64 0) := (blk_cell BK354.out 2).trans rfl; have hfz31_0 := blk_frozen BK354.out 0; have hfz31_1 := blk_frozen BK354.out 1; have hfz31_2 := blk_frozen BK354.out 2) | ((with_reducible refine gate_callee (f := 51) rfl ?_); refine goesL_ (some 38) rfl rfl Tryd.func51 (by kernel_rfl) rfl #[.agg #[.int .i64 (wrap64 (Int.tdiv x4_1 10000)), .int .i64 (Int.tmod (wrap64 (Int.tdiv x4_1 100)) 100), .int .i64 (Int.tmod x4_1 100)]] rfl (by (try simp only [List.map_toArray, List.map_cons, List.map_nil]); first | done | rfl | (simp only [List.length_drop, List.length_take]; rfl)) ?_; (with_reducible refine (spec_IsDate.calls (wrap64 (Int.tdiv x4_1 10000)) (Int.tmod (wrap64 (Int.tdiv x4_1 100)) 100) (Int.tmod x4_1 100) false _ A10.out).mono ?_); rintro e w32 ⟨rfl, hb⟩; refine ⟨_, rfl, ?_⟩; have n0_ := Aside0.mk (blk_below (g := gb353) (o := .cells #[.int .i64 0, .int .i64 0, .int .i64 0] 27 (0, 0)) (by (with_reducible repeat (first | refine blk_drewN ?_ _ | refine blk_drew ?_ | refine blk_alloc ?_ _)); refine blk_far ?_ NB353_354.out _; (with_reducible repeat (first | refine blk_drewN ?_ _ | refine blk_drew ?_ | refine blk_alloc ?_ _)); refine blk_far ?_ NB353_354.out _; (with_reducible repeat (first | refine blk_drewN ?_ _ | refine blk_drew ?_ | refine blk_alloc ?_ _)); refine blk_far ?_ NB353_354.out _; (with_reducible repeat (first | refine blk_drewN ?_ _ | refine blk_drew ?_ | refine blk_alloc ?_ _)); exact BK353.out) hb); have n1_ := Aside0.mk (blk_below (g := gb354) (o := .cells #[.int .i64 (wrap64 (Int.tdiv x4_1 10000)), .int .i64 (Int.tmod (wrap64 (Int.tdiv x4_1 100)) 100), .int .i64 (Int.tmod x4_1 100)] 27 (0, 0)) (by (with_reducible repeat (first | refine blk_drewN ?_ _ | refine blk_drew ?_ | refine blk_alloc ?_ _)); refine blk_put (cs := #[.int .i64 (wrap64 (Int.tdiv x4_1 10000)), .int .i64 (Int.tmod (wrap64 (Int.tdiv x4_1 100)) 100), .int .i64 0]) ?_ 2 _ rfl; (with_reducible repeat (first | refine blk_drewN ?_ _ | refine blk_drew ?_ | refine blk_alloc ?_ _)); refine blk_put (cs := #[.int .i64 (wrap64 (Int.tdiv x4_1 10000)), .int .i64 0, .int .i64 0]) ?_ 1 _ rfl; (with_reducible repeat (first | refine blk_drewN ?_ _ | refine blk_drew ?_ | refine blk_alloc ?_ _)); refine blk_put (cs := #[.int .i64 0, .int .i64 0, .int .i64 0]) ?_ 0 _ rfl; (with_reducible repeat (first | refine blk_drewN ?_ _ | refine blk_drew ?_ | refine blk_alloc ?_ _)); exact BK354.out) hb); have n2_ := Aside0.mk (below_step (by repeat (first | (with_reducible first | exact HB.out | apply below_alloc | apply pw_below_drewN | apply below_drew1 | refine below_set ?_ GE353.out | refine below_set ?_ GE354.out) | exact HB.out)) hb); clear BK353; clear BK354; clear HB; have BK353 := n0_; have BK354 := n1_; have HB := n2_; clear n0_ n1_ n2_; (try clear hb); (try clear hb2); (try clear hk); (try clear hi); have hcz33_0 : w32.cell? ⟨gb353, 0, none⟩ = some (.int .i64 0) := (blk_cell BK353.out 0).trans rfl; have hcz33_1 : w32.cell? ⟨gb353, 1, none⟩ = some (.int .i64 0) := (blk_cell BK353.out 1).trans rfl; have hcz33_2 : w32.cell? ⟨gb353, 2, none⟩ = some (.int .i64 0) := (blk_cell BK353.out 2).trans rfl; have hfz33_0 := blk_frozen BK353.out 0; have hfz33_1 := blk_frozen BK353.out 1; have hfz33_2 := blk_frozen BK353.out 2))
            refine bodyPost_ret (results_ct rfl _ _ gb353 27 #[.int .i64 0, .int .i64 0, .int .i64 0] (0, 0) _ rfl (by (with_reducible repeat (first | refine blk_drewN ?_ _ | refine blk_drew ?_ | refine blk_alloc ?_ _)); refine blk_put (cs := #[.int .i64 0, .int .i64 0, .int .i64 0]) ?_ 2 _ rfl; (with_reducible repeat (first | refine blk_drewN ?_ _ | refine blk_drew ?_ | refine blk_alloc ?_ _)); refine blk_put (cs := #[.int .i64 0, .int .i64 0, .int .i64 0]) ?_ 1 _ rfl; (with_reducible repeat (first | refine blk_drewN ?_ _ | refine blk_drew ?_ | refine blk_alloc ?_ _)); refine blk_put (cs := #[.int .i64 0, .int .i64 0, .int .i64 0]) ?_ 0 _ rfl; (with_reducible repeat (first | refine blk_drewN ?_ _ | refine blk_drew ?_ | refine blk_alloc ?_ _)); exact BK353.out) Tryd.underlying27 rfl (by kernel_rfl)) rfl ?_
            exact ⟨by first | rfl | (simp [errW_none, errW_some] <;> rfl) | (simp [*, errW_none, errW_some] <;> rfl), by repeat (first | (with_reducible first | exact HB.out | apply below_alloc | apply pw_below_drewN | apply below_drew1 | refine below_set ?_ GE353.out | refine below_set ?_ GE354.out) | exact HB.out)⟩
  · rw [if_neg c2] at H
    have c2b0 : ((a0.size : Int) == 10) = false := beq_eq_false_iff_ne.mpr c2
    have c2b1 : ((a0.size : Int) != 10) = true := bne_iff_ne.mpr c2
    simp only [Option.some.injEq, Prod.mk.injEq] at H
    obtain ⟨rfl, rfl, rfl, rfl⟩ := H
    go_enter Tryd.func18, Tryd.ntmps18
    go_wp2_with (first | ((with_reducible refine gate_dst (N := 2) rfl ?_); refine box_event ?hg (N := 2) ?hd (cs := #[.int .i64 0, .int .i64 0, .int .i64 0]) (t := 27) ?hr ?_; (case hd => rfl); (case hg => rfl); (case hr => first | (go_simp; done) | (go_simp; rfl)); intro gb353 hg w34 hbox hb; have n0_ := Aside0.mk (below_step (by repeat (first | (with_reducible first | exact HB.out | apply below_alloc | apply pw_below_drewN | apply below_drew1) | exact HB.out)) hb); have n1_ := Aside0.mk (hbox); have n2_ := Aside0.mk ((by rw [hg]; exact (below_size (by repeat (first | (with_reducible first | exact HB.out | apply below_alloc | apply pw_below_drewN | apply below_drew1) | exact HB.out))) : w.heap.size ≤ gb353)); have n3_ := Aside0.mk ((by rw [hg]; exact (below_size (by repeat (first | (with_reducible first | exact HB.out | apply below_alloc | apply pw_below_drewN | apply below_drew1) | exact HB.out))) : w.heap.size ≤ gb353)); clear HB; have HB := n0_; have BK353 := n1_; have GW353 := n2_; have GE353 := n3_; clear n0_ n1_ n2_ n3_; clear hb hbox hg; have hcz35_0 : w34.cell? ⟨gb353, 0, none⟩ = some (.int .i64 0) := (blk_cell BK353.out 0).trans rfl; have hcz35_1 : w34.cell? ⟨gb353, 1, none⟩ = some (.int .i64 0) := (blk_cell BK353.out 1).trans rfl; have hcz35_2 : w34.cell? ⟨gb353, 2, none⟩ = some (.int .i64 0) := (blk_cell BK353.out 2).trans rfl; have hfz35_0 := blk_frozen BK353.out 0; have hfz35_1 := blk_frozen BK353.out 1; have hfz35_2 := blk_frozen BK353.out 2))
    refine bodyPost_ret (results_ct rfl _ _ gb353 27 #[.int .i64 0, .int .i64 0, .int .i64 0] (0, 0) _ rfl (by (with_reducible repeat (first | refine blk_drewN ?_ _ | refine blk_drew ?_ | refine blk_alloc ?_ _)); refine blk_put (cs := #[.int .i64 0, .int .i64 0, .int .i64 0]) ?_ 2 _ rfl; (with_reducible repeat (first | refine blk_drewN ?_ _ | refine blk_drew ?_ | refine blk_alloc ?_ _)); refine blk_put (cs := #[.int .i64 0, .int .i64 0, .int .i64 0]) ?_ 1 _ rfl; (with_reducible repeat (first | refine blk_drewN ?_ _ | refine blk_drew ?_ | refine blk_alloc ?_ _)); refine blk_put (cs := #[.int .i64 0, .int .i64 0, .int .i64 0]) ?_ 0 _ rfl; (with_reducible repeat (first | refine blk_drewN ?_ _ | refine blk_drew ?_ | refine blk_alloc ?_ _)); exact BK353.out) Tryd.underlying27 rfl (by kernel_rfl)) rfl ?_
    exact ⟨by first | rfl | (simp [errW_none, errW_some] <;> rfl) | (simp [*, errW_none, errW_some] <;> rfl), by repeat (first | (with_reducible first | exact HB.out | apply below_alloc | apply pw_below_drewN | apply below_drew1 | refine below_set ?_ GE353.out) | exact HB.out)⟩

/-! ### impl_WeekdayOf: function 19 -/
def impl_WeekdayOf.f (k : Nat) (a0_0 : Int) (a0_1 : Int) (a0_2 : Int) : Option (Int × Int) := (impl_IsDate.f k a0_0 a0_1 a0_2).bind fun t358 => (if t358 = true then ((impl_dayNumber.f k a0_0 a0_1 a0_2).bind fun t359 => ((impl_weekday.f t359).bind fun t360 => (some (t360, 0)))) else (some (0, 1)))
theorem impl_WeekdayOf.mono : ∀ a0 a1 a2 k, LeO (impl_WeekdayOf.f k a0 a1 a2) (impl_WeekdayOf.f (k + 1) a0 a1 a2) := by
  intro a0 a1 a2 k
  unfold impl_WeekdayOf.f
  repeat' first
      | (with_reducible exact impl_IsDate.mono _ _ _ _)
      | (with_reducible exact impl_dayNumber.mono _ _ _ _)
      | (with_reducible exact LeO.refl _)
      | (with_reducible exact LeO.none _)
      | (with_reducible refine LeO.ite ?_ ?_)
      | (with_reducible refine LeO.bind ?_ (fun _ => ?_))
      | exact impl_IsDate.mono _ _ _ _
      | exact impl_dayNumber.mono _ _ _ _
      | exact LeO.none _
      | refine LeO.ite ?_ ?_
      | refine LeO.bind ?_ (fun _ => ?_)
set_option maxHeartbeats 8000000 in
set_option maxRecDepth 100000 in
theorem impl_WeekdayOf.calls (k : Nat) (a0_0 : Int) (a0_1 : Int) (a0_2 : Int) (r1 : Int) (r2 : Int) (w : World) (h : impl_WeekdayOf.f k a0_0 a0_1 a0_2 = some (r1, r2)) :
    Calls Tryd.prog 19 #[.agg #[.int .i64 a0_0, .int .i64 a0_1, .int .i64 a0_2]] w fun e w' => e = .returned (.tuple #[.int .i64 r1, .int .i64 r2]) ∧ Below w.heap.size w w' := by
  have hu27 := Tryd.underlying27
  have HB := Aside0.mk (Below.refl w.heap.size w)
  have H : ((impl_IsDate.f k a0_0 a0_1 a0_2).bind fun t358 => (if t358 = true then ((impl_dayNumber.f k a0_0 a0_1 a0_2).bind fun t359 => ((impl_weekday.f t359).bind fun t360 => (some (t360, 0)))) else (some (0, 1)))) = some (r1, r2) := h
  clear h
  replace H := Option.bind_eq_some_iff.mp H
  obtain ⟨t358, A20, H⟩ := H
  replace H : (if t358 = true then ((impl_dayNumber.f k a0_0 a0_1 a0_2).bind fun t359 => ((impl_weekday.f t359).bind fun t360 => (some (t360, 0)))) else (some (0, 1))) = some (r1, r2) := H
  have A2 := Aside0.mk A20
  clear A20
  by_cases c3 : t358 = true
  · subst c3
    have H1 : ((impl_dayNumber.f k a0_0 a0_1 a0_2).bind fun t359 => ((impl_weekday.f t359).bind fun t360 => (some (t360, 0)))) = some (r1, r2) := by rw [if_pos rfl] at H; exact H
    clear H
    have H := H1
    clear H1
    replace H := Option.bind_eq_some_iff.mp H
    obtain ⟨t359, A40, H⟩ := H
    replace H : ((impl_weekday.f t359).bind fun t360 => (some (t360, 0))) = some (r1, r2) := H
    have A4 := Aside0.mk A40
    clear A40
    replace H := Option.bind_eq_some_iff.mp H
    obtain ⟨t360, A50, H⟩ := H
    replace H : (some (t360, 0)) = some (r1, r2) := H
    have A5 := Aside0.mk A50
    clear A50
    simp only [Option.some.injEq, Prod.mk.injEq] at H
    obtain ⟨rfl, rfl⟩ := H
    go_enter Tryd.func19, Tryd.ntmps19
    go_wp2_with (first | ((with_reducible refine gate_dst (N := 1) rfl ?_); refine box_event ?hg (N := 1) ?hd (cs := #[.int .i64 a0_0, .int .i64 a0_1, .int .i64 a0_2]) (t := 27) ?hr ?_; (case hd => rfl); (case hg => rfl); (case hr => first | (go_simp; done) | (go_simp; rfl)); intro gb357 hg w6 hbox hb; have n0_ := Aside0.mk (below_step (by repeat (first | (with_reducible first | exact HB.out | apply below_alloc | apply pw_below_drewN | apply below_drew1) | exact HB.out)) hb); have n1_ := Aside0.mk (hbox); have n2_ := Aside0.mk ((by rw [hg]; exact (below_size (by repeat (first | (with_reducible first | exact HB.out | apply below_alloc | apply pw_below_drewN | apply below_drew1) | exact HB.out))) : w.heap.size ≤ gb357)); have n3_ := Aside0.mk ((by rw [hg]; exact (below_size (by repeat (first | (with_reducible first | exact HB.out | apply below_alloc | apply pw_below_drewN | apply below_drew1) | exact HB.out))) : w.heap.size ≤ gb357)); clear HB; have HB := n0_; have BK357 := n1_; have GW357 := n2_; have GE357 := n3_; clear n0_ n1_ n2_ n3_; clear hb hbox hg; have hcz7_0 : w6.cell? ⟨gb357, 0, none⟩ = some (.int .i64 a0_0) := (blk_cell BK357.out 0).trans rfl; have hcz7_1 : w6.cell? ⟨gb357, 1, none⟩ = some (.int .i64 a0_1) := (blk_cell BK357.out 1).trans rfl; have hcz7_2 : w6.cell? ⟨gb357, 2, none⟩ = some (.int .i64 a0_2) := (blk_cell BK357.out 2).trans rfl; have hfz7_0 := blk_frozen BK357.out 0; have hfz7_1 := blk_frozen BK357.out 1; have hfz7_2 := blk_frozen BK357.out 2) | ((with_reducible refine gate_callee (f := 48) rfl ?_); refine goesL_ (some 5) rfl rfl Tryd.func48 (by kernel_rfl) rfl #[.agg #[.int .i64 a0_0, .int .i64 a0_1, .int .i64 a0_2]] rfl (by (try simp only [List.map_toArray, List.map_cons, List.map_nil]); first | done | rfl | (simp only [List.length_drop, List.length_take]; rfl)) ?_; (with_reducible refine (impl_IsDate.calls k a0_0 a0_1 a0_2 true _ A2.out).mono ?_); rintro e w8 ⟨rfl, hb⟩; refine ⟨_, rfl, ?_⟩; have n0_ := Aside0.mk (blk_below (g := gb357) (o := .cells #[.int .i64 a0_0, .int .i64 a0_1, .int .i64 a0_2] 27 (0, 0)) (by (with_reducible repeat (first | refine blk_drewN ?_ _ | refine blk_drew ?_ | refine blk_alloc ?_ _)); exact BK357.out) hb); have n1_ := Aside0.mk (below_step (by repeat (first | (with_reducible first | exact HB.out | apply below_alloc | apply pw_below_drewN | apply below_drew1 | refine below_set ?_ GE357.out) | exact HB.out)) hb); clear BK357; clear HB; have BK357 := n0_; have HB := n1_; clear n0_ n1_; (try clear hb); (try clear hb2); (try clear hk); (try clear hi); have hcz9_0 : w8.cell? ⟨gb357, 0, none⟩ = some (.int .i64 a0_0) := (blk_cell BK357.out 0).trans rfl; have hcz9_1 : w8.cell? ⟨gb357, 1, none⟩ = some (.int .i64 a0_1) := (blk_cell BK357.out 1).trans rfl; have hcz9_2 : w8.cell? ⟨gb357, 2, none⟩ = some (.int .i64 a0_2) := (blk_cell BK357.out 2).trans rfl; have hfz9_0 := blk_frozen BK357.out 0; have hfz9_1 := blk_frozen BK357.out 1; have hfz9_2 := blk_frozen BK357.out 2) | ((with_reducible refine gate_callee (f := 59) rfl ?_); refine goesL_ (some 8) rfl rfl Tryd.func59 (by kernel_rfl) rfl #[.agg #[.int .i64 a0_0, .int .i64 a0_1, .int .i64 a0_2]] rfl (by (try simp only [List.map_toArray, List.map_cons, List.map_nil]); first | done | rfl | (simp only [List.length_drop, List.length_take]; rfl)) ?_; (with_reducible refine (impl_dayNumber.calls k a0_0 a0_1 a0_2 t359 _ A4.out).mono ?_); rintro e w10 ⟨rfl, hb⟩; refine ⟨_, rfl, ?_⟩; have n0_ := Aside0.mk (blk_below (g := gb357) (o := .cells #[.int .i64 a0_0, .int .i64 a0_1, .int .i64 a0_2] 27 (0, 0)) (by (with_reducible repeat (first | refine blk_drewN ?_ _ | refine blk_drew ?_ | refine blk_alloc ?_ _)); exact BK357.out) hb); have n1_ := Aside0.mk (below_step (by repeat (first | (with_reducible first | exact HB.out | apply below_alloc | apply pw_below_drewN | apply below_drew1 | refine below_set ?_ GE357.out) | exact HB.out)) hb); clear BK357; clear HB; have BK357 := n0_; have HB := n1_; clear n0_ n1_; (try clear hb); (try clear hb2); (try clear hk); (try clear hi)) | ((with_reducible refine gate_callee (f := 58) rfl ?_); refine goesL_ (some 9) rfl rfl Tryd.func58 (by kernel_rfl) rfl #[.int .i64 t359] rfl (by (try simp only [List.map_toArray, List.map_cons, List.map_nil]); first | done | rfl | (simp only [List.length_drop, List.length_take]; rfl)) ?_; (with_reducible refine (impl_weekday.calls t359 t360 _ A5.out).mono ?_); rintro e w' ⟨rfl, ⟨nd, rfl⟩⟩; refine ⟨_, rfl, ?_⟩))
    go_ret2
    exact ⟨by first | rfl | (simp [errW_none, errW_some] <;> rfl) | (simp [*, errW_none, errW_some] <;> rfl), by repeat (first | (with_reducible first | exact HB.out | apply below_alloc | apply pw_below_drewN | apply below_drew1 | refine below_set ?_ GE357.out) | exact HB.out)⟩
  · replace c3 := Bool.eq_false_iff.mpr c3
    subst c3
    have H1 : (some (0, 1)) = some (r1, r2) := by rw [if_neg (show ¬ (false = true) by decide)] at H; exact H
    clear H
    have H := H1
    clear H1
    simp only [Option.some.injEq, Prod.mk.injEq] at H
    obtain ⟨rfl, rfl⟩ := H
    go_enter Tryd.func19, Tryd.ntmps19
    go_wp2_with (first | ((with_reducible refine gate_dst (N := 1) rfl ?_); refine box_event ?hg (N := 1) ?hd (cs := #[.int .i64 a0_0, .int .i64 a0_1, .int .i64 a0_2]) (t := 27) ?hr ?_; (case hd => rfl); (case hg => rfl); (case hr => first | (go_simp; done) | (go_simp; rfl)); intro gb357 hg w11 hbox hb; have n0_ := Aside0.mk (below_step (by repeat (first | (with_reducible first | exact HB.out | apply below_alloc | apply pw_below_drewN | apply below_drew1) | exact HB.out)) hb); have n1_ := Aside0.mk (hbox); have n2_ := Aside0.mk ((by rw [hg]; exact (below_size (by repeat (first | (with_reducible first | exact HB.out | apply below_alloc | apply pw_below_drewN | apply below_drew1) | exact HB.out))) : w.heap.size ≤ gb357)); have n3_ := Aside0.mk ((by rw [hg]; exact (below_size (by repeat (first | (with_reducible first | exact HB.out | apply below_alloc | apply pw_below_drewN | apply below_drew1) | exact HB.out))) : w.heap.size ≤ gb357)); clear HB; have HB := n0_; have BK357 := n1_; have GW357 := n2_; have GE357 := n3_; clear n0_ n1_ n2_ n3_; clear hb hbox hg; have hcz12_0 : w11.cell? ⟨gb357, 0, none⟩ = some (.int .i64 a0_0) := (blk_cell BK357.out 0).trans rfl; have hcz12_1 : w11.cell? ⟨gb357, 1, none⟩ = some (.int .i64 a0_1) := (blk_cell BK357.out 1).trans rfl; have hcz12_2 : w11.cell? ⟨gb357, 2, none⟩ = some (.int .i64 a0_2) := (blk_cell BK357.out 2).trans rfl; have hfz12_0 := blk_frozen BK357.out 0; have hfz12_1 := blk_frozen BK357.out 1; have hfz12_2 := blk_frozen BK357.out 2) | ((with_reducible refine gate_callee (f := 48) rfl ?_); refine goesL_ (some 5) rfl rfl Tryd.func48 (by kernel_rfl) rfl #[.agg #[.int .i64 a0_0, .int .i64 a0_1, .int .i64 a0_2]] rfl (by (try simp only [List.map_toArray, List.map_cons, List.map_nil]); first | done | rfl | (simp only [List.length_drop, List.length_take]; rfl)) ?_; (with_reducible refine (impl_IsDate.calls k a0_0 a0_1 a0_2 false _ A2.out).mono ?_); rintro e w13 ⟨rfl, hb⟩; refine ⟨_, rfl, ?_⟩; have n0_ := Aside0.mk (blk_below (g := gb357) (o := .cells #[.int .i64 a0_0, .int .i64 a0_1, .int .i64 a0_2] 27 (0, 0)) (by (with_reducible repeat (first | refine blk_drewN ?_ _ | refine blk_drew ?_ | refine blk_alloc ?_ _)); exact BK357.out) hb); have n1_ := Aside0.mk (below_step (by repeat (first | (with_reducible first | exact HB.out | apply below_alloc | apply pw_below_drewN | apply below_drew1 | refine below_set ?_ GE357.out) | exact HB.out)) hb); clear BK357; clear HB; have BK357 := n0_; have HB := n1_; clear n0_ n1_; (try clear hb); (try clear hb2); (try clear hk); (try clear hi)))
    go_ret2
    exact ⟨by first | rfl | (simp [errW_none, errW_some] <;> rfl) | (simp [*, errW_none, errW_some] <;> rfl), by repeat (first | (with_reducible first | exact HB.out | apply below_alloc | apply pw_below_drewN | apply below_drew1 | refine below_set ?_ GE357.out) | exact HB.out)⟩

end Go.Proofs.YtndjeclnadpifaaDoor.PFnMonths
