-- The machine's side of the law FnAngleTexts: functions and their walks, made by q.py out of the kit's own print.
import Derived.Test.YtndjeclnadpifaaDoorQFnAngleTextsx0
import Derived.Test.YtndjeclnadpifaaDoorQFnAngleTextsx1
import Derived.Test.YtndjeclnadpifaaDoorQFnAngleTextsx2
namespace Go.Proofs.YtndjeclnadpifaaDoor.PFnAngleTexts
open Go.RowKit Go.Proofs.YtndjeclnadpifaaDoorW.PrintWords Go.Proofs.YtndjeclnadpifaaDoorW.PrintLast Go.Proofs.YtndjeclnadpifaaDoorW.PrintMore
attribute [local go_sem] max2_int min2_int max_two min_two max_three min_three max_four min_four   -- for this text's walks alone
set_option linter.unusedVariables false
set_option linter.unusedSimpArgs false

/-! ### spec_l03Two: function 84 -/
def spec_l03Two.f (a0 : Int) : Option (ByteArray) := some (strOfNums (([(wrap64 (48 + (wrap64 (Int.tdiv a0 10)))) % 256, (wrap64 (48 + (Int.tmod a0 10))) % 256] : List Int)))
set_option maxHeartbeats 8000000 in
set_option maxRecDepth 100000 in
theorem spec_l03Two.calls (a0 : Int) (r : ByteArray) (w : World) (h : spec_l03Two.f a0 = some r) :
    Calls Tryd.prog 84 #[.int .i64 a0] w fun e w' => e = .returned (.string r) ∧ Below w.heap.size w w' := by
  have HB := Aside0.mk (Below.refl w.heap.size w)
  have H : (some (strOfNums (([(wrap64 (48 + (wrap64 (Int.tdiv a0 10)))) % 256, (wrap64 (48 + (Int.tmod a0 10))) % 256] : List Int)))) = some r := h
  clear h
  obtain ⟨y199, hy199⟩ : ∃ y_ : List Int, y_ = (([(wrap64 (48 + (wrap64 (Int.tdiv a0 10)))) % 256, (wrap64 (48 + (Int.tmod a0 10))) % 256] : List Int)) := ⟨_, rfl⟩
  replace H : (some (strOfNums y199)) = some r := by first | (rw [hy199]; with_reducible exact H) | (have H2_ := (Option.bind_some _ _).symm.trans H; rw [hy199]; with_reducible exact H2_) | (have H2_ := (Option.bind_some _ _).symm.trans H; with_reducible exact H2_) | with_reducible exact H | (rw [hy199]; exact H) | exact H
  have Ny199 := Aside0.mk hy199
  clear hy199
  obtain rfl := Option.some.inj H
  go_enter Tryd.func84, Tryd.ntmps84
  go_wp2_with (first | ((with_reducible refine gate_dst (N := 11) rfl ?_); refine Kd.R_lit (Kd.int .u8) _ 5 ?hg (N := 11) ?hd (xs := ([(wrap64 (48 + (wrap64 (Int.tdiv a0 10)))) % 256, (wrap64 (48 + (Int.tmod a0 10))) % 256] : List Int)) (inner := [.int .u8 ((wrap64 (48 + (wrap64 (Int.tdiv a0 10)))) % 256), .int .u8 ((wrap64 (48 + (Int.tmod a0 10))) % 256)]) (ok := fun _ => True) (okp := fun _ => True) ?hr ?hp (fun _ hk => hk) trivial (Below.refl _ _) (Nat.le_refl _) (by simp) ?_; (case hd => rfl); (case hg => rfl); (case hr => first | (go_simp; done) | (go_simp; rfl)); (case hp => exact (Reps.one (show Kd.M (Kd.int .u8) _ _ _ ((wrap64 (48 + (wrap64 (Int.tdiv a0 10)))) % 256) [.int .u8 ((wrap64 (48 + (wrap64 (Int.tdiv a0 10)))) % 256)] from rfl) (Reps.one (show Kd.M (Kd.int .u8) _ _ _ ((wrap64 (48 + (Int.tmod a0 10))) % 256) [.int .u8 ((wrap64 (48 + (Int.tmod a0 10))) % 256)] from rfl) (Reps.none _ _)))); intro v200 w2 ho3 hb hg_ hnew_; clear hg_ hnew_; (first | rw [← Ny199.out] at ho3 | (simp only [Int.reduceToNat] at ho3; rw [← Ny199.out] at ho3)); have n0_ := Aside0.mk (Kd.R_lower ho3 (below_size (by repeat (first | (with_reducible first | exact HB.out | apply below_alloc | apply pw_below_drewN | apply below_drew1) | exact HB.out)))); have n1_ := Aside0.mk (below_step (by repeat (first | (with_reducible first | exact HB.out | apply below_alloc | apply pw_below_drewN | apply below_drew1) | exact HB.out)) hb); clear HB; have HO201 := n0_; have HB := n1_; clear n0_ n1_; clear hb ho3; have hcv4 := own_string (P := Tryd.prog) Tryd.underlying22 Tryd.underlying5 Tryd.underlying9 (Kd.own_of_R HO201.out)))
  go_ret
  exact ⟨by first | rfl | (simp [errW_none, errW_some] <;> rfl) | (simp [*, errW_none, errW_some] <;> rfl), by repeat (first | (with_reducible first | exact HB.out | apply below_alloc | apply pw_below_drewN | apply below_drew1) | exact HB.out)⟩

/-! ### spec_l03Text: function 70 -/
def spec_l03Text.f (k : Nat) (a0 : Int) : Option (ByteArray) := if a0 < 0 then ((spec_l01Dec.f k (wrap64 (Int.tdiv (wrap64 (-a0)) 3600))).bind fun t202 => (if 1 + t202.size ≤ 9223372036854775807 then (if ((⟨#[45]⟩ : ByteArray) ++ t202).size + 1 ≤ 9223372036854775807 then ((spec_l03Two.f (Int.tmod (wrap64 (Int.tdiv (wrap64 (-a0)) 60)) 60)).bind fun t203 => (if (((⟨#[45]⟩ : ByteArray) ++ t202) ++ (⟨#[100]⟩ : ByteArray)).size + t203.size ≤ 9223372036854775807 then (if ((((⟨#[45]⟩ : ByteArray) ++ t202) ++ (⟨#[100]⟩ : ByteArray)) ++ t203).size + 1 ≤ 9223372036854775807 then ((spec_l03Two.f (Int.tmod (wrap64 (-a0)) 60)).bind fun t204 => (if (((((⟨#[45]⟩ : ByteArray) ++ t202) ++ (⟨#[100]⟩ : ByteArray)) ++ t203) ++ (⟨#[109]⟩ : ByteArray)).size + t204.size ≤ 9223372036854775807 then (if ((((((⟨#[45]⟩ : ByteArray) ++ t202) ++ (⟨#[100]⟩ : ByteArray)) ++ t203) ++ (⟨#[109]⟩ : ByteArray)) ++ t204).size + 1 ≤ 9223372036854775807 then (some (((((((⟨#[45]⟩ : ByteArray) ++ t202) ++ (⟨#[100]⟩ : ByteArray)) ++ t203) ++ (⟨#[109]⟩ : ByteArray)) ++ t204) ++ (⟨#[115]⟩ : ByteArray))) else (none)) else (none))) else (none)) else (none))) else (none)) else (none))) else ((spec_l01Dec.f k (wrap64 (Int.tdiv a0 3600))).bind fun t205 => (if 0 + t205.size ≤ 9223372036854775807 then (if ((⟨#[]⟩ : ByteArray) ++ t205).size + 1 ≤ 9223372036854775807 then ((spec_l03Two.f (Int.tmod (wrap64 (Int.tdiv a0 60)) 60)).bind fun t206 => (if (((⟨#[]⟩ : ByteArray) ++ t205) ++ (⟨#[100]⟩ : ByteArray)).size + t206.size ≤ 9223372036854775807 then (if ((((⟨#[]⟩ : ByteArray) ++ t205) ++ (⟨#[100]⟩ : ByteArray)) ++ t206).size + 1 ≤ 9223372036854775807 then ((spec_l03Two.f (Int.tmod a0 60)).bind fun t207 => (if (((((⟨#[]⟩ : ByteArray) ++ t205) ++ (⟨#[100]⟩ : ByteArray)) ++ t206) ++ (⟨#[109]⟩ : ByteArray)).size + t207.size ≤ 9223372036854775807 then (if ((((((⟨#[]⟩ : ByteArray) ++ t205) ++ (⟨#[100]⟩ : ByteArray)) ++ t206) ++ (⟨#[109]⟩ : ByteArray)) ++ t207).size + 1 ≤ 9223372036854775807 then (some (((((((⟨#[]⟩ : ByteArray) ++ t205) ++ (⟨#[100]⟩ : ByteArray)) ++ t206) ++ (⟨#[109]⟩ : ByteArray)) ++ t207) ++ (⟨#[115]⟩ : ByteArray))) else (none)) else (none))) else (none)) else (none))) else (none)) else (none)))
theorem spec_l03Text.mono : ∀ a0 k, LeO (spec_l03Text.f k a0) (spec_l03Text.f (k + 1) a0) := by
  intro a0 k
  unfold spec_l03Text.f
  repeat' first
      | (with_reducible exact spec_l01Dec.mono _ _)
      | (with_reducible exact LeO.refl _)
      | (with_reducible exact LeO.none _)
      | (with_reducible refine LeO.ite ?_ ?_)
      | (with_reducible refine LeO.bind ?_ (fun _ => ?_))
      | exact spec_l01Dec.mono _ _
      | exact LeO.none _
      | refine LeO.ite ?_ ?_
      | refine LeO.bind ?_ (fun _ => ?_)
set_option maxHeartbeats 8000000 in
set_option maxRecDepth 100000 in
theorem spec_l03Text.calls (k : Nat) (a0 : Int) (r : ByteArray) (w : World) (h : spec_l03Text.f k a0 = some r) :
    Calls Tryd.prog 70 #[.int .i64 a0] w fun e w' => e = .returned (.string r) ∧ Below w.heap.size w w' := by
  have HB := Aside0.mk (Below.refl w.heap.size w)
  have H : (if a0 < 0 then ((spec_l01Dec.f k (wrap64 (Int.tdiv (wrap64 (-a0)) 3600))).bind fun t202 => (if 1 + t202.size ≤ 9223372036854775807 then (if ((⟨#[45]⟩ : ByteArray) ++ t202).size + 1 ≤ 9223372036854775807 then ((spec_l03Two.f (Int.tmod (wrap64 (Int.tdiv (wrap64 (-a0)) 60)) 60)).bind fun t203 => (if (((⟨#[45]⟩ : ByteArray) ++ t202) ++ (⟨#[100]⟩ : ByteArray)).size + t203.size ≤ 9223372036854775807 then (if ((((⟨#[45]⟩ : ByteArray) ++ t202) ++ (⟨#[100]⟩ : ByteArray)) ++ t203).size + 1 ≤ 9223372036854775807 then ((spec_l03Two.f (Int.tmod (wrap64 (-a0)) 60)).bind fun t204 => (if (((((⟨#[45]⟩ : ByteArray) ++ t202) ++ (⟨#[100]⟩ : ByteArray)) ++ t203) ++ (⟨#[109]⟩ : ByteArray)).size + t204.size ≤ 9223372036854775807 then (if ((((((⟨#[45]⟩ : ByteArray) ++ t202) ++ (⟨#[100]⟩ : ByteArray)) ++ t203) ++ (⟨#[109]⟩ : ByteArray)) ++ t204).size + 1 ≤ 9223372036854775807 then (some (((((((⟨#[45]⟩ : ByteArray) ++ t202) ++ (⟨#[100]⟩ : ByteArray)) ++ t203) ++ (⟨#[109]⟩ : ByteArray)) ++ t204) ++ (⟨#[115]⟩ : ByteArray))) else (none)) else (none))) else (none)) else (none))) else (none)) else (none))) else ((spec_l01Dec.f k (wrap64 (Int.tdiv a0 3600))).bind fun t205 => (if 0 + t205.size ≤ 9223372036854775807 then (if ((⟨#[]⟩ : ByteArray) ++ t205).size + 1 ≤ 9223372036854775807 then ((spec_l03Two.f (Int.tmod (wrap64 (Int.tdiv a0 60)) 60)).bind fun t206 => (if (((⟨#[]⟩ : ByteArray) ++ t205) ++ (⟨#[100]⟩ : ByteArray)).size + t206.size ≤ 9223372036854775807 then (if ((((⟨#[]⟩ : ByteArray) ++ t205) ++ (⟨#[100]⟩ : ByteArray)) ++ t206).size + 1 ≤ 9223372036854775807 then ((spec_l03Two.f (Int.tmod a0 60)).bind fun t207 => (if (((((⟨#[]⟩ : ByteArray) ++ t205) ++ (⟨#[100]⟩ : ByteArray)) ++ t206) ++ (⟨#[109]⟩ : ByteArray)).size + t207.size ≤ 9223372036854775807 then (if ((((((⟨#[]⟩ : ByteArray) ++ t205) ++ (⟨#[100]⟩ : ByteArray)) ++ t206) ++ (⟨#[109]⟩ : ByteArray)) ++ t207).size + 1 ≤ 9223372036854775807 then (some (((((((⟨#[]⟩ : ByteArray) ++ t205) ++ (⟨#[100]⟩ : ByteArray)) ++ t206) ++ (⟨#[109]⟩ : ByteArray)) ++ t207) ++ (⟨#[115]⟩ : ByteArray))) else (none)) else (none))) else (none)) else (none))) else (none)) else (none)))) = some r := h
  clear h
  by_cases c2 : a0 < 0
  · rw [if_pos c2] at H
    have c2b0 : decide (a0 < 0) = true := decide_eq_true c2
    clear c2
    replace H := Option.bind_eq_some_iff.mp H
    obtain ⟨t202, A30, H⟩ := H
    replace H : (if 1 + t202.size ≤ 9223372036854775807 then (if ((⟨#[45]⟩ : ByteArray) ++ t202).size + 1 ≤ 9223372036854775807 then ((spec_l03Two.f (Int.tmod (wrap64 (Int.tdiv (wrap64 (-a0)) 60)) 60)).bind fun t203 => (if (((⟨#[45]⟩ : ByteArray) ++ t202) ++ (⟨#[100]⟩ : ByteArray)).size + t203.size ≤ 9223372036854775807 then (if ((((⟨#[45]⟩ : ByteArray) ++ t202) ++ (⟨#[100]⟩ : ByteArray)) ++ t203).size + 1 ≤ 9223372036854775807 then ((spec_l03Two.f (Int.tmod (wrap64 (-a0)) 60)).bind fun t204 => (if (((((⟨#[45]⟩ : ByteArray) ++ t202) ++ (⟨#[100]⟩ : ByteArray)) ++ t203) ++ (⟨#[109]⟩ : ByteArray)).size + t204.size ≤ 9223372036854775807 then (if ((((((⟨#[45]⟩ : ByteArray) ++ t202) ++ (⟨#[100]⟩ : ByteArray)) ++ t203) ++ (⟨#[109]⟩ : ByteArray)) ++ t204).size + 1 ≤ 9223372036854775807 then (some (((((((⟨#[45]⟩ : ByteArray) ++ t202) ++ (⟨#[100]⟩ : ByteArray)) ++ t203) ++ (⟨#[109]⟩ : ByteArray)) ++ t204) ++ (⟨#[115]⟩ : ByteArray))) else (none)) else (none))) else (none)) else (none))) else (none)) else (none)) = some r := H
    have A3 := Aside0.mk A30
    clear A30
    by_cases c4 : 1 + t202.size ≤ 9223372036854775807
    · rw [if_pos c4] at H
      have c4b0 := eq_true c4
      have c4b1 : decide (1 + t202.size ≤ 9223372036854775807) = true := decide_eq_true c4
      try have c4b2 : (9223372036854775807 < 1 + t202.size) = False := eq_false (Nat.not_lt.2 c4)
      by_cases c5 : ((⟨#[45]⟩ : ByteArray) ++ t202).size + 1 ≤ 9223372036854775807
      · rw [if_pos c5] at H
        have c5b0 := eq_true c5
        have c5b1 : decide (((⟨#[45]⟩ : ByteArray) ++ t202).size + 1 ≤ 9223372036854775807) = true := decide_eq_true c5
        have c5z0 : (9223372036854775807 < 1 + t202.size + 1) = False := eq_false (Nat.not_lt.2 (by have hq_ := c5; have e0_ : (⟨#[]⟩ : ByteArray).size = 0 := rfl; have e1_ : ∀ x : UInt8, (⟨#[x]⟩ : ByteArray).size = 1 := fun _ => rfl; (try simp only [ByteArray.size_append, e0_, e1_] at hq_); omega))
        try have c5b2 : (9223372036854775807 < ((⟨#[45]⟩ : ByteArray) ++ t202).size + 1) = False := eq_false (Nat.not_lt.2 c5)
        replace H := Option.bind_eq_some_iff.mp H
        obtain ⟨t203, A60, H⟩ := H
        replace H : (if (((⟨#[45]⟩ : ByteArray) ++ t202) ++ (⟨#[100]⟩ : ByteArray)).size + t203.size ≤ 9223372036854775807 then (if ((((⟨#[45]⟩ : ByteArray) ++ t202) ++ (⟨#[100]⟩ : ByteArray)) ++ t203).size + 1 ≤ 9223372036854775807 then ((spec_l03Two.f (Int.tmod (wrap64 (-a0)) 60)).bind fun t204 => (if (((((⟨#[45]⟩ : ByteArray) ++ t202) ++ (⟨#[100]⟩ : ByteArray)) ++ t203) ++ (⟨#[109]⟩ : ByteArray)).size + t204.size ≤ 9223372036854775807 then (if ((((((⟨#[45]⟩ : ByteArray) ++ t202) ++ (⟨#[100]⟩ : ByteArray)) ++ t203) ++ (⟨#[109]⟩ : ByteArray)) ++ t204).size + 1 ≤ 9223372036854775807 then (some (((((((⟨#[45]⟩ : ByteArray) ++ t202) ++ (⟨#[100]⟩ : ByteArray)) ++ t203) ++ (⟨#[109]⟩ : ByteArray)) ++ t204) ++ (⟨#[115]⟩ : ByteArray))) else (none)) else (none))) else (none)) else (none)) = some r := H
        have A6 := Aside0.mk A60
        clear A60
        by_cases c7 : (((⟨#[45]⟩ : ByteArray) ++ t202) ++ (⟨#[100]⟩ : ByteArray)).size + t203.size ≤ 9223372036854775807
        · rw [if_pos c7] at H
          have c7b0 := eq_true c7
          have c7b1 : decide ((((⟨#[45]⟩ : ByteArray) ++ t202) ++ (⟨#[100]⟩ : ByteArray)).size + t203.size ≤ 9223372036854775807) = true := decide_eq_true c7
          have c7z0 : (9223372036854775807 < 1 + t202.size + 1 + t203.size) = False := eq_false (Nat.not_lt.2 (by have hq_ := c7; have e0_ : (⟨#[]⟩ : ByteArray).size = 0 := rfl; have e1_ : ∀ x : UInt8, (⟨#[x]⟩ : ByteArray).size = 1 := fun _ => rfl; (try simp only [ByteArray.size_append, e0_, e1_] at hq_); omega))
          try have c7b2 : (9223372036854775807 < (((⟨#[45]⟩ : ByteArray) ++ t202) ++ (⟨#[100]⟩ : ByteArray)).size + t203.size) = False := eq_false (Nat.not_lt.2 c7)
          by_cases c8 : ((((⟨#[45]⟩ : ByteArray) ++ t202) ++ (⟨#[100]⟩ : ByteArray)) ++ t203).size + 1 ≤ 9223372036854775807
          · rw [if_pos c8] at H
            have c8b0 := eq_true c8
            have c8b1 : decide (((((⟨#[45]⟩ : ByteArray) ++ t202) ++ (⟨#[100]⟩ : ByteArray)) ++ t203).size + 1 ≤ 9223372036854775807) = true := decide_eq_true c8
            have c8z0 : (9223372036854775807 < 1 + t202.size + 1 + t203.size + 1) = False := eq_false (Nat.not_lt.2 (by have hq_ := c8; have e0_ : (⟨#[]⟩ : ByteArray).size = 0 := rfl; have e1_ : ∀ x : UInt8, (⟨#[x]⟩ : ByteArray).size = 1 := fun _ => rfl; (try simp only [ByteArray.size_append, e0_, e1_] at hq_); omega))
            try have c8b2 : (9223372036854775807 < ((((⟨#[45]⟩ : ByteArray) ++ t202) ++ (⟨#[100]⟩ : ByteArray)) ++ t203).size + 1) = False := eq_false (Nat.not_lt.2 c8)
            replace H := Option.bind_eq_some_iff.mp H
            obtain ⟨t204, A90, H⟩ := H
            replace H : (if (((((⟨#[45]⟩ : ByteArray) ++ t202) ++ (⟨#[100]⟩ : ByteArray)) ++ t203) ++ (⟨#[109]⟩ : ByteArray)).size + t204.size ≤ 9223372036854775807 then (if ((((((⟨#[45]⟩ : ByteArray) ++ t202) ++ (⟨#[100]⟩ : ByteArray)) ++ t203) ++ (⟨#[109]⟩ : ByteArray)) ++ t204).size + 1 ≤ 9223372036854775807 then (some (((((((⟨#[45]⟩ : ByteArray) ++ t202) ++ (⟨#[100]⟩ : ByteArray)) ++ t203) ++ (⟨#[109]⟩ : ByteArray)) ++ t204) ++ (⟨#[115]⟩ : ByteArray))) else (none)) else (none)) = some r := H
            have A9 := Aside0.mk A90
            clear A90
            by_cases c10 : (((((⟨#[45]⟩ : ByteArray) ++ t202) ++ (⟨#[100]⟩ : ByteArray)) ++ t203) ++ (⟨#[109]⟩ : ByteArray)).size + t204.size ≤ 9223372036854775807
            · rw [if_pos c10] at H
              have c10b0 := eq_true c10
              have c10b1 : decide ((((((⟨#[45]⟩ : ByteArray) ++ t202) ++ (⟨#[100]⟩ : ByteArray)) ++ t203) ++ (⟨#[109]⟩ : ByteArray)).size + t204.size ≤ 9223372036854775807) = true := decide_eq_true c10
              have c10z0 : (9223372036854775807 < 1 + t202.size + 1 + t203.size + 1 + t204.size) = False := eq_false (Nat.not_lt.2 (by have hq_ := c10; have e0_ : (⟨#[]⟩ : ByteArray).size = 0 := rfl; have e1_ : ∀ x : UInt8, (⟨#[x]⟩ : ByteArray).size = 1 := fun _ => rfl; (try simp only [ByteArray.size_append, e0_, e1_] at hq_); omega))
              try have c10b2 : (9223372036854775807 < (((((⟨#[45]⟩ : ByteArray) ++ t202) ++ (⟨#[100]⟩ : ByteArray)) ++ t203) ++ (⟨#[109]⟩ : ByteArray)).size + t204.size) = False := eq_false (Nat.not_lt.2 c10)
              by_cases c11 : ((((((⟨#[45]⟩ : ByteArray) ++ t202) ++ (⟨#[100]⟩ : ByteArray)) ++ t203) ++ (⟨#[109]⟩ : ByteArray)) ++ t204).size + 1 ≤ 9223372036854775807
              · rw [if_pos c11] at H
                have c11b0 := eq_true c11
                have c11b1 : decide (((((((⟨#[45]⟩ : ByteArray) ++ t202) ++ (⟨#[100]⟩ : ByteArray)) ++ t203) ++ (⟨#[109]⟩ : ByteArray)) ++ t204).size + 1 ≤ 9223372036854775807) = true := decide_eq_true c11
                have c11z0 : (9223372036854775807 < 1 + t202.size + 1 + t203.size + 1 + t204.size + 1) = False := eq_false (Nat.not_lt.2 (by have hq_ := c11; have e0_ : (⟨#[]⟩ : ByteArray).size = 0 := rfl; have e1_ : ∀ x : UInt8, (⟨#[x]⟩ : ByteArray).size = 1 := fun _ => rfl; (try simp only [ByteArray.size_append, e0_, e1_] at hq_); omega))
                try have c11b2 : (9223372036854775807 < ((((((⟨#[45]⟩ : ByteArray) ++ t202) ++ (⟨#[100]⟩ : ByteArray)) ++ t203) ++ (⟨#[109]⟩ : ByteArray)) ++ t204).size + 1) = False := eq_false (Nat.not_lt.2 c11)
                obtain rfl := Option.some.inj H
                go_enter Tryd.func70, Tryd.ntmps70
                go_wp2_with (first | ((with_reducible refine gate_callee (f := 83) rfl ?_); refine goesL_ (some 11) rfl rfl Tryd.func83 (by kernel_rfl) rfl #[.int .i64 (wrap64 (Int.tdiv (wrap64 (-a0)) 3600))] rfl (by (try simp only [List.map_toArray, List.map_cons, List.map_nil]); first | done | rfl | (simp only [List.length_drop, List.length_take]; rfl)) ?_; (with_reducible refine (spec_l01Dec.calls k (wrap64 (Int.tdiv (wrap64 (-a0)) 3600)) t202 _ A3.out).mono ?_); rintro e w12 ⟨rfl, hb⟩; refine ⟨_, rfl, ?_⟩; have n0_ := Aside0.mk (below_step (by repeat (first | (with_reducible first | exact HB.out | apply below_alloc | apply pw_below_drewN | apply below_drew1) | exact HB.out)) hb); clear HB; have HB := n0_; clear n0_; (try clear hb); (try clear hb2); (try clear hk); (try clear hi)) | ((with_reducible refine gate_callee (f := 84) rfl ?_); refine goesL_ (some 17) rfl rfl Tryd.func84 (by kernel_rfl) rfl #[.int .i64 (Int.tmod (wrap64 (Int.tdiv (wrap64 (-a0)) 60)) 60)] rfl (by (try simp only [List.map_toArray, List.map_cons, List.map_nil]); first | done | rfl | (simp only [List.length_drop, List.length_take]; rfl)) ?_; (with_reducible refine (spec_l03Two.calls (Int.tmod (wrap64 (Int.tdiv (wrap64 (-a0)) 60)) 60) t203 _ A6.out).mono ?_); rintro e w13 ⟨rfl, hb⟩; refine ⟨_, rfl, ?_⟩; have n0_ := Aside0.mk (below_step (by repeat (first | (with_reducible first | exact HB.out | apply below_alloc | apply pw_below_drewN | apply below_drew1) | exact HB.out)) hb); clear HB; have HB := n0_; clear n0_; (try clear hb); (try clear hb2); (try clear hk); (try clear hi)) | ((with_reducible refine gate_callee (f := 84) rfl ?_); refine goesL_ (some 22) rfl rfl Tryd.func84 (by kernel_rfl) rfl #[.int .i64 (Int.tmod (wrap64 (-a0)) 60)] rfl (by (try simp only [List.map_toArray, List.map_cons, List.map_nil]); first | done | rfl | (simp only [List.length_drop, List.length_take]; rfl)) ?_; (with_reducible refine (spec_l03Two.calls (Int.tmod (wrap64 (-a0)) 60) t204 _ A9.out).mono ?_); rintro e w14 ⟨rfl, hb⟩; refine ⟨_, rfl, ?_⟩; have n0_ := Aside0.mk (below_step (by repeat (first | (with_reducible first | exact HB.out | apply below_alloc | apply pw_below_drewN | apply below_drew1) | exact HB.out)) hb); clear HB; have HB := n0_; clear n0_; (try clear hb); (try clear hb2); (try clear hk); (try clear hi)))
                go_ret
                exact ⟨by first | rfl | (simp [errW_none, errW_some] <;> rfl) | (simp [*, errW_none, errW_some] <;> rfl), by repeat (first | (with_reducible first | exact HB.out | apply below_alloc | apply pw_below_drewN | apply below_drew1) | exact HB.out)⟩
              · rw [if_neg c11] at H
                exact absurd H (by simp)
            · rw [if_neg c10] at H
              exact absurd H (by simp)
          · rw [if_neg c8] at H
            exact absurd H (by simp)
        · rw [if_neg c7] at H
          exact absurd H (by simp)
      · rw [if_neg c5] at H
        exact absurd H (by simp)
    · rw [if_neg c4] at H
      exact absurd H (by simp)
  · rw [if_neg c2] at H
    have c2b0 : decide (a0 < 0) = false := decide_eq_false c2
    clear c2
    replace H := Option.bind_eq_some_iff.mp H
    obtain ⟨t205, A150, H⟩ := H
    replace H : (if 0 + t205.size ≤ 9223372036854775807 then (if ((⟨#[]⟩ : ByteArray) ++ t205).size + 1 ≤ 9223372036854775807 then ((spec_l03Two.f (Int.tmod (wrap64 (Int.tdiv a0 60)) 60)).bind fun t206 => (if (((⟨#[]⟩ : ByteArray) ++ t205) ++ (⟨#[100]⟩ : ByteArray)).size + t206.size ≤ 9223372036854775807 then (if ((((⟨#[]⟩ : ByteArray) ++ t205) ++ (⟨#[100]⟩ : ByteArray)) ++ t206).size + 1 ≤ 9223372036854775807 then ((spec_l03Two.f (Int.tmod a0 60)).bind fun t207 => (if (((((⟨#[]⟩ : ByteArray) ++ t205) ++ (⟨#[100]⟩ : ByteArray)) ++ t206) ++ (⟨#[109]⟩ : ByteArray)).size + t207.size ≤ 9223372036854775807 then (if ((((((⟨#[]⟩ : ByteArray) ++ t205) ++ (⟨#[100]⟩ : ByteArray)) ++ t206) ++ (⟨#[109]⟩ : ByteArray)) ++ t207).size + 1 ≤ 9223372036854775807 then (some (((((((⟨#[]⟩ : ByteArray) ++ t205) ++ (⟨#[100]⟩ : ByteArray)) ++ t206) ++ (⟨#[109]⟩ : ByteArray)) ++ t207) ++ (⟨#[115]⟩ : ByteArray))) else (none)) else (none))) else (none)) else (none))) else (none)) else (none)) = some r := H
    have A15 := Aside0.mk A150
    clear A150
    by_cases c16 : 0 + t205.size ≤ 9223372036854775807
    · rw [if_pos c16] at H
      have c16b0 := eq_true c16
      have c16b1 : decide (0 + t205.size ≤ 9223372036854775807) = true := decide_eq_true c16
      have c16z0 : (9223372036854775807 < 0 + t205.size) = False := eq_false (Nat.not_lt.2 (by have hq_ := c16; have e0_ : (⟨#[]⟩ : ByteArray).size = 0 := rfl; have e1_ : ∀ x : UInt8, (⟨#[x]⟩ : ByteArray).size = 1 := fun _ => rfl; (try simp only [ByteArray.size_append, e0_, e1_] at hq_); omega))
      have c16z1 : (9223372036854775807 < t205.size) = False := eq_false (Nat.not_lt.2 (by have hq_ := c16; have e0_ : (⟨#[]⟩ : ByteArray).size = 0 := rfl; have e1_ : ∀ x : UInt8, (⟨#[x]⟩ : ByteArray).size = 1 := fun _ => rfl; (try simp only [ByteArray.size_append, e0_, e1_] at hq_); omega))
      try have c16b2 : (9223372036854775807 < 0 + t205.size) = False := eq_false (Nat.not_lt.2 c16)
      by_cases c17 : ((⟨#[]⟩ : ByteArray) ++ t205).size + 1 ≤ 9223372036854775807
      · rw [if_pos c17] at H
        have c17b0 := eq_true c17
        have c17b1 : decide (((⟨#[]⟩ : ByteArray) ++ t205).size + 1 ≤ 9223372036854775807) = true := decide_eq_true c17
        have c17z0 : (9223372036854775807 < 0 + t205.size + 1) = False := eq_false (Nat.not_lt.2 (by have hq_ := c17; have e0_ : (⟨#[]⟩ : ByteArray).size = 0 := rfl; have e1_ : ∀ x : UInt8, (⟨#[x]⟩ : ByteArray).size = 1 := fun _ => rfl; (try simp only [ByteArray.size_append, e0_, e1_] at hq_); omega))
        have c17z1 : (9223372036854775807 < t205.size + 1) = False := eq_false (Nat.not_lt.2 (by have hq_ := c17; have e0_ : (⟨#[]⟩ : ByteArray).size = 0 := rfl; have e1_ : ∀ x : UInt8, (⟨#[x]⟩ : ByteArray).size = 1 := fun _ => rfl; (try simp only [ByteArray.size_append, e0_, e1_] at hq_); omega))
        try have c17b2 : (9223372036854775807 < ((⟨#[]⟩ : ByteArray) ++ t205).size + 1) = False := eq_false (Nat.not_lt.2 c17)
        replace H := Option.bind_eq_some_iff.mp H
        obtain ⟨t206, A180, H⟩ := H
        replace H : (if (((⟨#[]⟩ : ByteArray) ++ t205) ++ (⟨#[100]⟩ : ByteArray)).size + t206.size ≤ 9223372036854775807 then (if ((((⟨#[]⟩ : ByteArray) ++ t205) ++ (⟨#[100]⟩ : ByteArray)) ++ t206).size + 1 ≤ 9223372036854775807 then ((spec_l03Two.f (Int.tmod a0 60)).bind fun t207 => (if (((((⟨#[]⟩ : ByteArray) ++ t205) ++ (⟨#[100]⟩ : ByteArray)) ++ t206) ++ (⟨#[109]⟩ : ByteArray)).size + t207.size ≤ 9223372036854775807 then (if ((((((⟨#[]⟩ : ByteArray) ++ t205) ++ (⟨#[100]⟩ : ByteArray)) ++ t206) ++ (⟨#[109]⟩ : ByteArray)) ++ t207).size + 1 ≤ 9223372036854775807 then (some (((((((⟨#[]⟩ : ByteArray) ++ t205) ++ (⟨#[100]⟩ : ByteArray)) ++ t206) ++ (⟨#[109]⟩ : ByteArray)) ++ t207) ++ (⟨#[115]⟩ : ByteArray))) else (none)) else (none))) else (none)) else (none)) = some r := H
        have A18 := Aside0.mk A180
        clear A180
        by_cases c19 : (((⟨#[]⟩ : ByteArray) ++ t205) ++ (⟨#[100]⟩ : ByteArray)).size + t206.size ≤ 9223372036854775807
        · rw [if_pos c19] at H
          have c19b0 := eq_true c19
          have c19b1 : decide ((((⟨#[]⟩ : ByteArray) ++ t205) ++ (⟨#[100]⟩ : ByteArray)).size + t206.size ≤ 9223372036854775807) = true := decide_eq_true c19
          have c19z0 : (9223372036854775807 < 0 + t205.size + 1 + t206.size) = False := eq_false (Nat.not_lt.2 (by have hq_ := c19; have e0_ : (⟨#[]⟩ : ByteArray).size = 0 := rfl; have e1_ : ∀ x : UInt8, (⟨#[x]⟩ : ByteArray).size = 1 := fun _ => rfl; (try simp only [ByteArray.size_append, e0_, e1_] at hq_); omega))
          have c19z1 : (9223372036854775807 < t205.size + 1 + t206.size) = False := eq_false (Nat.not_lt.2 (by have hq_ := c19; have e0_ : (⟨#[]⟩ : ByteArray).size = 0 := rfl; have e1_ : ∀ x : UInt8, (⟨#[x]⟩ : ByteArray).size = 1 := fun _ => rfl; (try simp only [ByteArray.size_append, e0_, e1_] at hq_); omega))
          try have c19b2 : (9223372036854775807 < (((⟨#[]⟩ : ByteArray) ++ t205) ++ (⟨#[100]⟩ : ByteArray)).size + t206.size) = False := eq_false (Nat.not_lt.2 c19)
          by_cases c20 : ((((⟨#[]⟩ : ByteArray) ++ t205) ++ (⟨#[100]⟩ : ByteArray)) ++ t206).size + 1 ≤ 9223372036854775807
          · rw [if_pos c20] at H
            have c20b0 := eq_true c20
            have c20b1 : decide (((((⟨#[]⟩ : ByteArray) ++ t205) ++ (⟨#[100]⟩ : ByteArray)) ++ t206).size + 1 ≤ 9223372036854775807) = true := decide_eq_true c20
            have c20z0 : (9223372036854775807 < 0 + t205.size + 1 + t206.size + 1) = False := eq_false (Nat.not_lt.2 (by have hq_ := c20; have e0_ : (⟨#[]⟩ : ByteArray).size = 0 := rfl; have e1_ : ∀ x : UInt8, (⟨#[x]⟩ : ByteArray).size = 1 := fun _ => rfl; (try simp only [ByteArray.size_append, e0_, e1_] at hq_); omega))
            have c20z1 : (9223372036854775807 < t205.size + 1 + t206.size + 1) = False := eq_false (Nat.not_lt.2 (by have hq_ := c20; have e0_ : (⟨#[]⟩ : ByteArray).size = 0 := rfl; have e1_ : ∀ x : UInt8, (⟨#[x]⟩ : ByteArray).size = 1 := fun _ => rfl; (try simp only [ByteArray.size_append, e0_, e1_] at hq_); omega))
            try have c20b2 : (9223372036854775807 < ((((⟨#[]⟩ : ByteArray) ++ t205) ++ (⟨#[100]⟩ : ByteArray)) ++ t206).size + 1) = False := eq_false (Nat.not_lt.2 c20)
            replace H := Option.bind_eq_some_iff.mp H
            obtain ⟨t207, A210, H⟩ := H
            replace H : (if (((((⟨#[]⟩ : ByteArray) ++ t205) ++ (⟨#[100]⟩ : ByteArray)) ++ t206) ++ (⟨#[109]⟩ : ByteArray)).size + t207.size ≤ 9223372036854775807 then (if ((((((⟨#[]⟩ : ByteArray) ++ t205) ++ (⟨#[100]⟩ : ByteArray)) ++ t206) ++ (⟨#[109]⟩ : ByteArray)) ++ t207).size + 1 ≤ 9223372036854775807 then (some (((((((⟨#[]⟩ : ByteArray) ++ t205) ++ (⟨#[100]⟩ : ByteArray)) ++ t206) ++ (⟨#[109]⟩ : ByteArray)) ++ t207) ++ (⟨#[115]⟩ : ByteArray))) else (none)) else (none)) = some r := H
            have A21 := Aside0.mk A210
            clear A210
            by_cases c22 : (((((⟨#[]⟩ : ByteArray) ++ t205) ++ (⟨#[100]⟩ : ByteArray)) ++ t206) ++ (⟨#[109]⟩ : ByteArray)).size + t207.size ≤ 9223372036854775807
            · rw [if_pos c22] at H
              have c22b0 := eq_true c22
              have c22b1 : decide ((((((⟨#[]⟩ : ByteArray) ++ t205) ++ (⟨#[100]⟩ : ByteArray)) ++ t206) ++ (⟨#[109]⟩ : ByteArray)).size + t207.size ≤ 9223372036854775807) = true := decide_eq_true c22
              have c22z0 : (9223372036854775807 < 0 + t205.size + 1 + t206.size + 1 + t207.size) = False := eq_false (Nat.not_lt.2 (by have hq_ := c22; have e0_ : (⟨#[]⟩ : ByteArray).size = 0 := rfl; have e1_ : ∀ x : UInt8, (⟨#[x]⟩ : ByteArray).size = 1 := fun _ => rfl; (try simp only [ByteArray.size_append, e0_, e1_] at hq_); omega))
              have c22z1 : (9223372036854775807 < t205.size + 1 + t206.size + 1 + t207.size) = False := eq_false (Nat.not_lt.2 (by have hq_ := c22; have e0_ : (⟨#[]⟩ : ByteArray).size = 0 := rfl; have e1_ : ∀ x : UInt8, (⟨#[x]⟩ : ByteArray).size = 1 := fun _ => rfl; (try simp only [ByteArray.size_append, e0_, e1_] at hq_); omega))
              try have c22b2 : (9223372036854775807 < (((((⟨#[]⟩ : ByteArray) ++ t205) ++ (⟨#[100]⟩ : ByteArray)) ++ t206) ++ (⟨#[109]⟩ : ByteArray)).size + t207.size) = False := eq_false (Nat.not_lt.2 c22)
              by_cases c23 : ((((((⟨#[]⟩ : ByteArray) ++ t205) ++ (⟨#[100]⟩ : ByteArray)) ++ t206) ++ (⟨#[109]⟩ : ByteArray)) ++ t207).size + 1 ≤ 9223372036854775807
              · rw [if_pos c23] at H
                have c23b0 := eq_true c23
                have c23b1 : decide (((((((⟨#[]⟩ : ByteArray) ++ t205) ++ (⟨#[100]⟩ : ByteArray)) ++ t206) ++ (⟨#[109]⟩ : ByteArray)) ++ t207).size + 1 ≤ 9223372036854775807) = true := decide_eq_true c23
                have c23z0 : (9223372036854775807 < 0 + t205.size + 1 + t206.size + 1 + t207.size + 1) = False := eq_false (Nat.not_lt.2 (by have hq_ := c23; have e0_ : (⟨#[]⟩ : ByteArray).size = 0 := rfl; have e1_ : ∀ x : UInt8, (⟨#[x]⟩ : ByteArray).size = 1 := fun _ => rfl; (try simp only [ByteArray.size_append, e0_, e1_] at hq_); omega))
                have c23z1 : (9223372036854775807 < t205.size + 1 + t206.size + 1 + t207.size + 1) = False := eq_false (Nat.not_lt.2 (by have hq_ := c23; have e0_ : (⟨#[]⟩ : ByteArray).size = 0 := rfl; have e1_ : ∀ x : UInt8, (⟨#[x]⟩ : ByteArray).size = 1 := fun _ => rfl; (try simp only [ByteArray.size_append, e0_, e1_] at hq_); omega))
                try have c23b2 : (9223372036854775807 < ((((((⟨#[]⟩ : ByteArray) ++ t205) ++ (⟨#[100]⟩ : ByteArray)) ++ t206) ++ (⟨#[109]⟩ : ByteArray)) ++ t207).size + 1) = False := eq_false (Nat.not_lt.2 c23)
                obtain rfl := Option.some.inj H
                go_enter Tryd.func70, Tryd.ntmps70
                go_wp2_with (first | ((with_reducible refine gate_callee (f := 83) rfl ?_); refine goesL_ (some 11) rfl rfl Tryd.func83 (by kernel_rfl) rfl #[.int .i64 (wrap64 (Int.tdiv a0 3600))] rfl (by (try simp only [List.map_toArray, List.map_cons, List.map_nil]); first | done | rfl | (simp only [List.length_drop, List.length_take]; rfl)) ?_; (with_reducible refine (spec_l01Dec.calls k (wrap64 (Int.tdiv a0 3600)) t205 _ A15.out).mono ?_); rintro e w24 ⟨rfl, hb⟩; refine ⟨_, rfl, ?_⟩; have n0_ := Aside0.mk (below_step (by repeat (first | (with_reducible first | exact HB.out | apply below_alloc | apply pw_below_drewN | apply below_drew1) | exact HB.out)) hb); clear HB; have HB := n0_; clear n0_; (try clear hb); (try clear hb2); (try clear hk); (try clear hi)) | ((with_reducible refine gate_callee (f := 84) rfl ?_); refine goesL_ (some 17) rfl rfl Tryd.func84 (by kernel_rfl) rfl #[.int .i64 (Int.tmod (wrap64 (Int.tdiv a0 60)) 60)] rfl (by (try simp only [List.map_toArray, List.map_cons, List.map_nil]); first | done | rfl | (simp only [List.length_drop, List.length_take]; rfl)) ?_; (with_reducible refine (spec_l03Two.calls (Int.tmod (wrap64 (Int.tdiv a0 60)) 60) t206 _ A18.out).mono ?_); rintro e w25 ⟨rfl, hb⟩; refine ⟨_, rfl, ?_⟩; have n0_ := Aside0.mk (below_step (by repeat (first | (with_reducible first | exact HB.out | apply below_alloc | apply pw_below_drewN | apply below_drew1) | exact HB.out)) hb); clear HB; have HB := n0_; clear n0_; (try clear hb); (try clear hb2); (try clear hk); (try clear hi)) | ((with_reducible refine gate_callee (f := 84) rfl ?_); refine goesL_ (some 22) rfl rfl Tryd.func84 (by kernel_rfl) rfl #[.int .i64 (Int.tmod a0 60)] rfl (by (try simp only [List.map_toArray, List.map_cons, List.map_nil]); first | done | rfl | (simp only [List.length_drop, List.length_take]; rfl)) ?_; (with_reducible refine (spec_l03Two.calls (Int.tmod a0 60) t207 _ A21.out).mono ?_); rintro e w26 ⟨rfl, hb⟩; refine ⟨_, rfl, ?_⟩; have n0_ := Aside0.mk (below_step (by repeat (first | (with_reducible first | exact HB.out | apply below_alloc | apply pw_below_drewN | apply below_drew1) | exact HB.out)) hb); clear HB; have HB := n0_; clear n0_; (try clear hb); (try clear hb2); (try clear hk); (try clear hi)))
                go_ret
                exact ⟨by first | rfl | (simp [errW_none, errW_some] <;> rfl) | (simp [*, errW_none, errW_some] <;> rfl), by repeat (first | (with_reducible first | exact HB.out | apply below_alloc | apply pw_below_drewN | apply below_drew1) | exact HB.out)⟩
              · rw [if_neg c23] at H
                exact absurd H (by simp)
            · rw [if_neg c22] at H
              exact absurd H (by simp)
          · rw [if_neg c20] at H
            exact absurd H (by simp)
        · rw [if_neg c19] at H
          exact absurd H (by simp)
      · rw [if_neg c17] at H
        exact absurd H (by simp)
    · rw [if_neg c16] at H
      exact absurd H (by simp)

/-! ### spec_AngleText: function 29 -/
def spec_AngleText.f (k : Nat) (a0 : Int) : Option (ByteArray × Int) := (spec_l01In.f a0 (-648000) 1296000).bind fun t208 => (if t208 = true then ((spec_l03Text.f k a0).bind fun t209 => (some (t209, 0))) else (some ((⟨#[]⟩ : ByteArray), 2)))
theorem spec_AngleText.mono : ∀ a0 k, LeO (spec_AngleText.f k a0) (spec_AngleText.f (k + 1) a0) := by
  intro a0 k
  unfold spec_AngleText.f
  repeat' first
      | (with_reducible exact spec_l03Text.mono _ _)
      | (with_reducible exact LeO.refl _)
      | (with_reducible exact LeO.none _)
      | (with_reducible refine LeO.ite ?_ ?_)
      | (with_reducible refine LeO.bind ?_ (fun _ => ?_))
      | exact spec_l03Text.mono _ _
      | exact LeO.none _
      | refine LeO.ite ?_ ?_
      | refine LeO.bind ?_ (fun _ => ?_)
set_option maxHeartbeats 8000000 in
set_option maxRecDepth 100000 in
theorem spec_AngleText.calls (k : Nat) (a0 : Int) (r1 : ByteArray) (r2 : Int) (w : World) (h : spec_AngleText.f k a0 = some (r1, r2)) :
    Calls Tryd.prog 29 #[.int .i64 a0] w fun e w' => e = .returned (.tuple #[.string r1, .int .i64 r2]) ∧ Below w.heap.size w w' := by
  have HB := Aside0.mk (Below.refl w.heap.size w)
  have H : ((spec_l01In.f a0 (-648000) 1296000).bind fun t208 => (if t208 = true then ((spec_l03Text.f k a0).bind fun t209 => (some (t209, 0))) else (some ((⟨#[]⟩ : ByteArray), 2)))) = some (r1, r2) := h
  clear h
  replace H := Option.bind_eq_some_iff.mp H
  obtain ⟨t208, A20, H⟩ := H
  replace H : (if t208 = true then ((spec_l03Text.f k a0).bind fun t209 => (some (t209, 0))) else (some ((⟨#[]⟩ : ByteArray), 2))) = some (r1, r2) := H
  have A2 := Aside0.mk A20
  clear A20
  by_cases c3 : t208 = true
  · subst c3
    have H1 : ((spec_l03Text.f k a0).bind fun t209 => (some (t209, 0))) = some (r1, r2) := by rw [if_pos rfl] at H; exact H
    clear H
    have H := H1
    clear H1
    replace H := Option.bind_eq_some_iff.mp H
    obtain ⟨t209, A40, H⟩ := H
    replace H : (some (t209, 0)) = some (r1, r2) := H
    have A4 := Aside0.mk A40
    clear A40
    simp only [Option.some.injEq, Prod.mk.injEq] at H
    obtain ⟨rfl, rfl⟩ := H
    go_enter Tryd.func29, Tryd.ntmps29
    go_wp2_with (first | ((with_reducible refine gate_callee (f := 43) rfl ?_); refine goesL_ (some 5) rfl rfl Tryd.func43 (by kernel_rfl) rfl #[.int .i64 a0, .int .i64 (-648000), .int .i64 1296000] rfl (by (try simp only [List.map_toArray, List.map_cons, List.map_nil]); first | done | rfl | (simp only [List.length_drop, List.length_take]; rfl)) ?_; (with_reducible refine (spec_l01In.calls a0 (-648000) 1296000 true _ A2.out).mono ?_); rintro e w' ⟨rfl, ⟨nd, rfl⟩⟩; refine ⟨_, rfl, ?_⟩) | ((with_reducible refine gate_callee (f := 70) rfl ?_); refine goesL_ (some 8) rfl rfl Tryd.func70 (by kernel_rfl) rfl #[.int .i64 a0] rfl (by (try simp only [List.map_toArray, List.map_cons, List.map_nil]); first | done | rfl | (simp only [List.length_drop, List.length_take]; rfl)) ?_; (with_reducible refine (spec_l03Text.calls k a0 t209 _ A4.out).mono ?_); rintro e w5 ⟨rfl, hb⟩; refine ⟨_, rfl, ?_⟩; have n0_ := Aside0.mk (below_step (by repeat (first | (with_reducible first | exact HB.out | apply below_alloc | apply pw_below_drewN | apply below_drew1) | exact HB.out)) hb); clear HB; have HB := n0_; clear n0_; (try clear hb); (try clear hb2); (try clear hk); (try clear hi)))
    go_ret2
    exact ⟨by first | rfl | (simp [errW_none, errW_some] <;> rfl) | (simp [*, errW_none, errW_some] <;> rfl), by repeat (first | (with_reducible first | exact HB.out | apply below_alloc | apply pw_below_drewN | apply below_drew1) | exact HB.out)⟩
  · replace c3 := Bool.eq_false_iff.mpr c3
    subst c3
    have H1 : (some ((⟨#[]⟩ : ByteArray), 2)) = some (r1, r2) := by rw [if_neg (show ¬ (false = true) by decide)] at H; exact H
    clear H
    have H := H1
    clear H1
    simp only [Option.some.injEq, Prod.mk.injEq] at H
    obtain ⟨rfl, rfl⟩ := H
    go_enter Tryd.func29, Tryd.ntmps29
    go_wp2_with (first | ((with_reducible refine gate_callee (f := 43) rfl ?_); refine goesL_ (some 5) rfl rfl Tryd.func43 (by kernel_rfl) rfl #[.int .i64 a0, .int .i64 (-648000), .int .i64 1296000] rfl (by (try simp only [List.map_toArray, List.map_cons, List.map_nil]); first | done | rfl | (simp only [List.length_drop, List.length_take]; rfl)) ?_; (with_reducible refine (spec_l01In.calls a0 (-648000) 1296000 false _ A2.out).mono ?_); rintro e w' ⟨rfl, ⟨nd, rfl⟩⟩; refine ⟨_, rfl, ?_⟩))
    go_ret2
    exact ⟨by first | rfl | (simp [errW_none, errW_some] <;> rfl) | (simp [*, errW_none, errW_some] <;> rfl), by repeat (first | (with_reducible first | exact HB.out | apply below_alloc | apply pw_below_drewN | apply below_drew1) | exact HB.out)⟩

/-! ### spec_l01Damage: function 54 -/
def spec_l01Damage.f (s0_0 : List Int) (s0_1 : Int) (s0_2 : Int) (a1 : ByteArray) : Option (ByteArray × Int × Int) := (spec_l01Next.f s0_0 s0_1 s0_2 (wrap64 ((a1.size : Int) + 1))).bind fun bt210 => ((spec_l01Next.f s0_0 bt210.2.1 bt210.2.2 8).bind fun bt213 => (if bt213.1 = 0 then (if 0 ≤ bt210.1 then (if bt210.1 ≤ (a1.size : Int) then (some (a1.extract 0 (bt210.1 : Int).toNat, bt213.2.1, bt213.2.2)) else (none)) else (none)) else (if bt213.1 = 1 then (if 0 ≤ bt210.1 then (if bt210.1 ≤ (a1.size : Int) then ((some (([(⟨#[48]⟩ : ByteArray), (⟨#[35]⟩ : ByteArray), (⟨#[46]⟩ : ByteArray), (⟨#[47]⟩ : ByteArray), (⟨#[32]⟩ : ByteArray), (⟨#[97]⟩ : ByteArray), (⟨#[45]⟩ : ByteArray), (⟨#[10]⟩ : ByteArray)] : List ByteArray) : List ByteArray)).bind fun y216 => ((spec_l01Next.f s0_0 bt213.2.1 bt213.2.2 8).bind fun bt219 => (if 0 ≤ bt219.1 then (if bt219.1 < (y216.length : Int) then (if (a1.extract 0 (bt210.1 : Int).toNat).size + (rdOf ByteArray.empty y216 bt219.1).size ≤ 9223372036854775807 then (if ((a1.extract 0 (bt210.1 : Int).toNat) ++ (rdOf ByteArray.empty y216 bt219.1)).size + (a1.extract (bt210.1 : Int).toNat a1.size).size ≤ 9223372036854775807 then (some (((a1.extract 0 (bt210.1 : Int).toNat) ++ (rdOf ByteArray.empty y216 bt219.1)) ++ (a1.extract (bt210.1 : Int).toNat a1.size), bt219.2.1, bt219.2.2)) else (none)) else (none)) else (none)) else (none)))) else (none)) else (none)) else (if bt213.1 = 2 then (if bt210.1 < (a1.size : Int) then (if 0 ≤ bt210.1 then (if bt210.1 ≤ (a1.size : Int) then (if 0 ≤ (wrap64 (bt210.1 + 1)) then (if (wrap64 (bt210.1 + 1)) ≤ (a1.size : Int) then (if (a1.extract 0 (bt210.1 : Int).toNat).size + (a1.extract ((wrap64 (bt210.1 + 1)) : Int).toNat a1.size).size ≤ 9223372036854775807 then (some ((a1.extract 0 (bt210.1 : Int).toNat) ++ (a1.extract ((wrap64 (bt210.1 + 1)) : Int).toNat a1.size), bt213.2.1, bt213.2.2)) else (none)) else (none)) else (none)) else (none)) else (none)) else (some (a1, bt213.2.1, bt213.2.2))) else (some (a1, bt213.2.1, bt213.2.2))))))
def spec_l01Damage.T6 : Bool × List (List Nat × List Nat) := (true, [([], []), ([], []), ([0, 1], [0, 1]), ([], []), ([], []), ([4], [4]), ([3, 5], [3, 5]), ([6], [6]), ([2, 7], [2, 7]), ([], []), ([], []), ([9, 10], [9, 10]), ([8, 11], [8, 11]), ([12, 5, 0, 1, 2, 3, 4, 5, 6, 7, 8, 9, 10, 11, 12], [12])])
def spec_l01Damage.B6 : List Nat := [0, 0, 3, 0, 0, 16, 56, 120, 255, 0, 0, 1536, 4095, 8191]
theorem spec_l01Damage.tab6 : rtab .any (opsOf Tryd.f54 6) = spec_l01Damage.T6 := by kernel_rfl
theorem spec_l01Damage.bits6 : waitsOk spec_l01Damage.T6.2 spec_l01Damage.B6 = true := by kernel_rfl
def spec_l01Damage.T9 : Bool × List (List Nat × List Nat) := (true, [([], []), ([], []), ([0, 1], [0, 1]), ([], []), ([], []), ([4], [4]), ([3, 5], [3, 5]), ([2, 6], [2, 6]), ([7, 0, 1, 2, 3, 4, 5, 6, 7], [7])])
def spec_l01Damage.B9 : List Nat := [0, 0, 3, 0, 0, 16, 56, 127, 255]
theorem spec_l01Damage.tab9 : rtab .any (opsOf Tryd.f54 9) = spec_l01Damage.T9 := by kernel_rfl
theorem spec_l01Damage.bits9 : waitsOk spec_l01Damage.T9.2 spec_l01Damage.B9 = true := by kernel_rfl
set_option maxHeartbeats 8000000 in
set_option maxRecDepth 100000 in
theorem spec_l01Damage.calls (g : Nat) (s0_0 : List Int) (s0_1 : Int) (s0_2 : Int) (a1 : ByteArray) (r1 : ByteArray) (r2 : Int) (r3 : Int) (w0 w : World) (hI : IsS87 w0 w g s0_0 s0_1 s0_2) (hB : Below w0.heap.size w0 w) (h : spec_l01Damage.f s0_0 s0_1 s0_2 a1 = some (r1, r2, r3)) :
    Calls Tryd.prog 54 #[.pointer (some ⟨g, 0, none⟩), .string a1] w fun e w' => e = .returned (.string r1) ∧ IsS87 w0 w' g s0_0 r2 r3 ∧ Below w0.heap.size w0 w' ∧ KeepBut w w' g none := by
  have HI0 := Aside0.mk hI
  have HK := Aside0.mk (KeepBut.refl w g none)
  have HL := Aside0.mk hB.size
  clear hI
  have HW0 := Aside0.mk hB.size
  have HB := Aside0.mk hB
  clear hB
  have H : ((spec_l01Next.f s0_0 s0_1 s0_2 (wrap64 ((a1.size : Int) + 1))).bind fun bt210 => ((spec_l01Next.f s0_0 bt210.2.1 bt210.2.2 8).bind fun bt213 => (if bt213.1 = 0 then (if 0 ≤ bt210.1 then (if bt210.1 ≤ (a1.size : Int) then (some (a1.extract 0 (bt210.1 : Int).toNat, bt213.2.1, bt213.2.2)) else (none)) else (none)) else (if bt213.1 = 1 then (if 0 ≤ bt210.1 then (if bt210.1 ≤ (a1.size : Int) then ((some (([(⟨#[48]⟩ : ByteArray), (⟨#[35]⟩ : ByteArray), (⟨#[46]⟩ : ByteArray), (⟨#[47]⟩ : ByteArray), (⟨#[32]⟩ : ByteArray), (⟨#[97]⟩ : ByteArray), (⟨#[45]⟩ : ByteArray), (⟨#[10]⟩ : ByteArray)] : List ByteArray) : List ByteArray)).bind fun y216 => ((spec_l01Next.f s0_0 bt213.2.1 bt213.2.2 8).bind fun bt219 => (if 0 ≤ bt219.1 then (if bt219.1 < (y216.length : Int) then (if (a1.extract 0 (bt210.1 : Int).toNat).size + (rdOf ByteArray.empty y216 bt219.1).size ≤ 9223372036854775807 then (if ((a1.extract 0 (bt210.1 : Int).toNat) ++ (rdOf ByteArray.empty y216 bt219.1)).size + (a1.extract (bt210.1 : Int).toNat a1.size).size ≤ 9223372036854775807 then (some (((a1.extract 0 (bt210.1 : Int).toNat) ++ (rdOf ByteArray.empty y216 bt219.1)) ++ (a1.extract (bt210.1 : Int).toNat a1.size), bt219.2.1, bt219.2.2)) else (none)) else (none)) else (none)) else (none)))) else (none)) else (none)) else (if bt213.1 = 2 then (if bt210.1 < (a1.size : Int) then (if 0 ≤ bt210.1 then (if bt210.1 ≤ (a1.size : Int) then (if 0 ≤ (wrap64 (bt210.1 + 1)) then (if (wrap64 (bt210.1 + 1)) ≤ (a1.size : Int) then (if (a1.extract 0 (bt210.1 : Int).toNat).size + (a1.extract ((wrap64 (bt210.1 + 1)) : Int).toNat a1.size).size ≤ 9223372036854775807 then (some ((a1.extract 0 (bt210.1 : Int).toNat) ++ (a1.extract ((wrap64 (bt210.1 + 1)) : Int).toNat a1.size), bt213.2.1, bt213.2.2)) else (none)) else (none)) else (none)) else (none)) else (none)) else (some (a1, bt213.2.1, bt213.2.2))) else (some (a1, bt213.2.1, bt213.2.2))))))) = some (r1, r2, r3) := h
  clear h
  replace H := Option.bind_eq_some_iff.mp H
  obtain ⟨⟨t210, t211, t212⟩, A30, H⟩ := H
  replace H : ((spec_l01Next.f s0_0 t211 t212 8).bind fun bt213 => (if bt213.1 = 0 then (if 0 ≤ t210 then (if t210 ≤ (a1.size : Int) then (some (a1.extract 0 (t210 : Int).toNat, bt213.2.1, bt213.2.2)) else (none)) else (none)) else (if bt213.1 = 1 then (if 0 ≤ t210 then (if t210 ≤ (a1.size : Int) then ((some (([(⟨#[48]⟩ : ByteArray), (⟨#[35]⟩ : ByteArray), (⟨#[46]⟩ : ByteArray), (⟨#[47]⟩ : ByteArray), (⟨#[32]⟩ : ByteArray), (⟨#[97]⟩ : ByteArray), (⟨#[45]⟩ : ByteArray), (⟨#[10]⟩ : ByteArray)] : List ByteArray) : List ByteArray)).bind fun y216 => ((spec_l01Next.f s0_0 bt213.2.1 bt213.2.2 8).bind fun bt219 => (if 0 ≤ bt219.1 then (if bt219.1 < (y216.length : Int) then (if (a1.extract 0 (t210 : Int).toNat).size + (rdOf ByteArray.empty y216 bt219.1).size ≤ 9223372036854775807 then (if ((a1.extract 0 (t210 : Int).toNat) ++ (rdOf ByteArray.empty y216 bt219.1)).size + (a1.extract (t210 : Int).toNat a1.size).size ≤ 9223372036854775807 then (some (((a1.extract 0 (t210 : Int).toNat) ++ (rdOf ByteArray.empty y216 bt219.1)) ++ (a1.extract (t210 : Int).toNat a1.size), bt219.2.1, bt219.2.2)) else (none)) else (none)) else (none)) else (none)))) else (none)) else (none)) else (if bt213.1 = 2 then (if t210 < (a1.size : Int) then (if 0 ≤ t210 then (if t210 ≤ (a1.size : Int) then (if 0 ≤ (wrap64 (t210 + 1)) then (if (wrap64 (t210 + 1)) ≤ (a1.size : Int) then (if (a1.extract 0 (t210 : Int).toNat).size + (a1.extract ((wrap64 (t210 + 1)) : Int).toNat a1.size).size ≤ 9223372036854775807 then (some ((a1.extract 0 (t210 : Int).toNat) ++ (a1.extract ((wrap64 (t210 + 1)) : Int).toNat a1.size), bt213.2.1, bt213.2.2)) else (none)) else (none)) else (none)) else (none)) else (none)) else (some (a1, bt213.2.1, bt213.2.2))) else (some (a1, bt213.2.1, bt213.2.2)))))) = some (r1, r2, r3) := H
  have A3 := Aside0.mk A30
  clear A30
  replace H := Option.bind_eq_some_iff.mp H
  obtain ⟨⟨t213, t214, t215⟩, A40, H⟩ := H
  replace H : (if t213 = 0 then (if 0 ≤ t210 then (if t210 ≤ (a1.size : Int) then (some (a1.extract 0 (t210 : Int).toNat, t214, t215)) else (none)) else (none)) else (if t213 = 1 then (if 0 ≤ t210 then (if t210 ≤ (a1.size : Int) then ((some (([(⟨#[48]⟩ : ByteArray), (⟨#[35]⟩ : ByteArray), (⟨#[46]⟩ : ByteArray), (⟨#[47]⟩ : ByteArray), (⟨#[32]⟩ : ByteArray), (⟨#[97]⟩ : ByteArray), (⟨#[45]⟩ : ByteArray), (⟨#[10]⟩ : ByteArray)] : List ByteArray) : List ByteArray)).bind fun y216 => ((spec_l01Next.f s0_0 t214 t215 8).bind fun bt219 => (if 0 ≤ bt219.1 then (if bt219.1 < (y216.length : Int) then (if (a1.extract 0 (t210 : Int).toNat).size + (rdOf ByteArray.empty y216 bt219.1).size ≤ 9223372036854775807 then (if ((a1.extract 0 (t210 : Int).toNat) ++ (rdOf ByteArray.empty y216 bt219.1)).size + (a1.extract (t210 : Int).toNat a1.size).size ≤ 9223372036854775807 then (some (((a1.extract 0 (t210 : Int).toNat) ++ (rdOf ByteArray.empty y216 bt219.1)) ++ (a1.extract (t210 : Int).toNat a1.size), bt219.2.1, bt219.2.2)) else (none)) else (none)) else (none)) else (none)))) else (none)) else (none)) else (if t213 = 2 then (if t210 < (a1.size : Int) then (if 0 ≤ t210 then (if t210 ≤ (a1.size : Int) then (if 0 ≤ (wrap64 (t210 + 1)) then (if (wrap64 (t210 + 1)) ≤ (a1.size : Int) then (if (a1.extract 0 (t210 : Int).toNat).size + (a1.extract ((wrap64 (t210 + 1)) : Int).toNat a1.size).size ≤ 9223372036854775807 then (some ((a1.extract 0 (t210 : Int).toNat) ++ (a1.extract ((wrap64 (t210 + 1)) : Int).toNat a1.size), t214, t215)) else (none)) else (none)) else (none)) else (none)) else (none)) else (some (a1, t214, t215))) else (some (a1, t214, t215))))) = some (r1, r2, r3) := H
  have A4 := Aside0.mk A40
  clear A40
  by_cases c5 : t213 = 0
  · rw [if_pos c5] at H
    have c5b0 : (t213 == 0) = true := beq_iff_eq.mpr c5
    have c5b1 : (t213 != 0) = false := bne_eq_false_iff_eq.mpr c5
    clear c5
    by_cases c6 : 0 ≤ t210
    · rw [if_pos c6] at H
      have c6b0 := eq_true c6
      have c6b1 : decide (0 ≤ t210) = true := decide_eq_true c6
      clear c6
      by_cases c7 : t210 ≤ (a1.size : Int)
      · rw [if_pos c7] at H
        have c7b0 := eq_true c7
        have c7b1 : decide (t210 ≤ (a1.size : Int)) = true := decide_eq_true c7
        clear c7
        simp only [Option.some.injEq, Prod.mk.injEq] at H
        obtain ⟨rfl, rfl, rfl⟩ := H
        go_enter Tryd.func54, Tryd.ntmps54
        go_wp2_with (first | ((with_reducible refine gate_callee (f := 38) rfl ?_); refine goesL_ (some 10) rfl rfl Tryd.func38 (by kernel_rfl) rfl #[.pointer (some ⟨g, 0, none⟩), .int .i64 (wrap64 ((a1.size : Int) + 1))] rfl (by (try simp only [List.map_toArray, List.map_cons, List.map_nil]); first | done | rfl | (simp only [List.length_drop, List.length_take]; rfl)) ?_; (with_reducible refine (spec_l01Next.calls g s0_0 s0_1 s0_2 (wrap64 ((a1.size : Int) + 1)) t210 t211 t212 w0 _ ?side1 ?side2 A3.out).mono ?_); (case side1 => repeat (first | (with_reducible first | exact HI0.out | apply IsS87.alloc | apply IsS87.drewN | apply IsS87.drew | apply IsS87.set_1 | apply IsS87.set_2) | exact HI0.out)); (case side2 => repeat (first | (with_reducible first | exact HB.out | apply below_alloc | apply pw_below_drewN | apply below_drew1 | refine below_set ?_ (IsS87.ge HI0.out)) | exact HB.out)); rintro e w8 ⟨rfl, hi, hb, hk⟩; refine ⟨_, rfl, ?_⟩; have n0_ := Aside0.mk (KeepBut.trans (by repeat (first | (with_reducible first | exact HK.out | apply KeepBut.set_ | apply keep_drewN | apply keep_drew | apply keep_alloc) | exact HK.out)) hk (.inl rfl)); have n1_ := Aside0.mk (hb); have n2_ := Aside0.mk (hi); clear HK; clear HB; clear HI0; have HK := n0_; have HB := n1_; have HI0 := n2_; clear n0_ n1_ n2_; (try clear hb); (try clear hb2); (try clear hk); (try clear hi)) | ((with_reducible refine gate_callee (f := 38) rfl ?_); refine goesL_ (some 12) rfl rfl Tryd.func38 (by kernel_rfl) rfl #[.pointer (some ⟨g, 0, none⟩), .int .i64 8] rfl (by (try simp only [List.map_toArray, List.map_cons, List.map_nil]); first | done | rfl | (simp only [List.length_drop, List.length_take]; rfl)) ?_; (with_reducible refine (spec_l01Next.calls g s0_0 t211 t212 8 t213 t214 t215 w0 _ ?side1 ?side2 A4.out).mono ?_); (case side1 => repeat (first | (with_reducible first | exact HI0.out | apply IsS87.alloc | apply IsS87.drewN | apply IsS87.drew | apply IsS87.set_1 | apply IsS87.set_2) | exact HI0.out)); (case side2 => repeat (first | (with_reducible first | exact HB.out | apply below_alloc | apply pw_below_drewN | apply below_drew1 | refine below_set ?_ (IsS87.ge HI0.out)) | exact HB.out)); rintro e w9 ⟨rfl, hi, hb, hk⟩; refine ⟨_, rfl, ?_⟩; have n0_ := Aside0.mk (KeepBut.trans (by repeat (first | (with_reducible first | exact HK.out | apply KeepBut.set_ | apply keep_drewN | apply keep_drew | apply keep_alloc) | exact HK.out)) hk (.inl rfl)); have n1_ := Aside0.mk (hb); have n2_ := Aside0.mk (hi); clear HK; clear HB; clear HI0; have HK := n0_; have HB := n1_; have HI0 := n2_; clear n0_ n1_ n2_; (try clear hb); (try clear hb2); (try clear hk); (try clear hi)))
        go_ret
        exact ⟨by first | rfl | (simp [errW_none, errW_some] <;> rfl) | (simp [*, errW_none, errW_some] <;> rfl), by repeat (first | (with_reducible first | exact HI0.out | apply IsS87.alloc | apply IsS87.drewN | apply IsS87.drew | apply IsS87.set_1 | apply IsS87.set_2) | exact HI0.out), by repeat (first | (with_reducible first | exact HB.out | apply below_alloc | apply pw_below_drewN | apply below_drew1 | refine below_set ?_ (IsS87.ge HI0.out)) | exact HB.out), by repeat (first | (with_reducible first | exact HK.out | apply KeepBut.set_ | apply keep_drewN | apply keep_drew | apply keep_alloc) | exact HK.out)⟩
      · rw [if_neg c7] at H
        exact absurd H (by simp)
    · rw [if_neg c6] at H
      exact absurd H (by simp)
  · rw [if_neg c5] at H
    have c5b0 : (t213 == 0) = false := beq_eq_false_iff_ne.mpr c5
    have c5b1 : (t213 != 0) = true := bne_iff_ne.mpr c5
    by_cases c10 : t213 = 1
    · rw [if_pos c10] at H
      have c10b0 : (t213 == 1) = true := beq_iff_eq.mpr c10
      have c10b1 : (t213 != 1) = false := bne_eq_false_iff_eq.mpr c10
      clear c10
      by_cases c11 : 0 ≤ t210
      · rw [if_pos c11] at H
        have c11b0 := eq_true c11
        have c11b1 : decide (0 ≤ t210) = true := decide_eq_true c11
        clear c11
        by_cases c12 : t210 ≤ (a1.size : Int)
        · rw [if_pos c12] at H
          have c12b0 := eq_true c12
          have c12b1 : decide (t210 ≤ (a1.size : Int)) = true := decide_eq_true c12
          clear c12
          obtain ⟨y216, hy216⟩ : ∃ y_ : List ByteArray, y_ = (([(⟨#[48]⟩ : ByteArray), (⟨#[35]⟩ : ByteArray), (⟨#[46]⟩ : ByteArray), (⟨#[47]⟩ : ByteArray), (⟨#[32]⟩ : ByteArray), (⟨#[97]⟩ : ByteArray), (⟨#[45]⟩ : ByteArray), (⟨#[10]⟩ : ByteArray)] : List ByteArray)) := ⟨_, rfl⟩
          replace H : ((spec_l01Next.f s0_0 t214 t215 8).bind fun bt219 => (if 0 ≤ bt219.1 then (if bt219.1 < (y216.length : Int) then (if (a1.extract 0 (t210 : Int).toNat).size + (rdOf ByteArray.empty y216 bt219.1).size ≤ 9223372036854775807 then (if ((a1.extract 0 (t210 : Int).toNat) ++ (rdOf ByteArray.empty y216 bt219.1)).size + (a1.extract (t210 : Int).toNat a1.size).size ≤ 9223372036854775807 then (some (((a1.extract 0 (t210 : Int).toNat) ++ (rdOf ByteArray.empty y216 bt219.1)) ++ (a1.extract (t210 : Int).toNat a1.size), bt219.2.1, bt219.2.2)) else (none)) else (none)) else (none)) else (none))) = some (r1, r2, r3) := by first | (rw [hy216]; with_reducible exact H) | (have H2_ := (Option.bind_some _ _).symm.trans H; rw [hy216]; with_reducible exact H2_) | (have H2_ := (Option.bind_some _ _).symm.trans H; with_reducible exact H2_) | with_reducible exact H | (rw [hy216]; exact H) | exact H
          have Ny216 := Aside0.mk hy216
          clear hy216
          replace H := Option.bind_eq_some_iff.mp H
          obtain ⟨⟨t219, t220, t221⟩, A130, H⟩ := H
          replace H : (if 0 ≤ t219 then (if t219 < (y216.length : Int) then (if (a1.extract 0 (t210 : Int).toNat).size + (rdOf ByteArray.empty y216 t219).size ≤ 9223372036854775807 then (if ((a1.extract 0 (t210 : Int).toNat) ++ (rdOf ByteArray.empty y216 t219)).size + (a1.extract (t210 : Int).toNat a1.size).size ≤ 9223372036854775807 then (some (((a1.extract 0 (t210 : Int).toNat) ++ (rdOf ByteArray.empty y216 t219)) ++ (a1.extract (t210 : Int).toNat a1.size), t220, t221)) else (none)) else (none)) else (none)) else (none)) = some (r1, r2, r3) := H
          have A13 := Aside0.mk A130
          clear A130
          by_cases c14 : 0 ≤ t219
          · rw [if_pos c14] at H
            have c14b0 : decide (0 ≤ t219) = true := decide_eq_true c14
            clear c14
            by_cases c15 : t219 < (y216.length : Int)
            · rw [if_pos c15] at H
              have c15b0 : decide (t219 < (y216.length : Int)) = true := decide_eq_true c15
              clear c15
              by_cases c16 : (a1.extract 0 (t210 : Int).toNat).size + (rdOf ByteArray.empty y216 t219).size ≤ 9223372036854775807
              · rw [if_pos c16] at H
                have c16b0 := eq_true c16
                have c16b1 : decide ((a1.extract 0 (t210 : Int).toNat).size + (rdOf ByteArray.empty y216 t219).size ≤ 9223372036854775807) = true := decide_eq_true c16
                try have c16x0 : (9223372036854775807 < t210.toNat + (rdOf ByteArray.empty y216 t219).size) = False := eq_false (Nat.not_lt.2 (by have hq_ := c16; have hl0_ : t210 ≤ (a1.size : Int) := (by first | (with_reducible assumption) | (apply of_eq_true; with_reducible assumption) | (apply of_decide_eq_true; with_reducible assumption)); (simp only [ByteArray.size_append, ByteArray.size_extract] at hq_); omega))
                try have c16x1 : (t210.toNat + (rdOf ByteArray.empty y216 t219).size ≤ 9223372036854775807) = True := eq_true (by have hq_ := c16; have hl0_ : t210 ≤ (a1.size : Int) := (by first | (with_reducible assumption) | (apply of_eq_true; with_reducible assumption) | (apply of_decide_eq_true; with_reducible assumption)); (simp only [ByteArray.size_append, ByteArray.size_extract] at hq_); omega)
                try have c16b2 : (9223372036854775807 < (a1.extract 0 (t210 : Int).toNat).size + (rdOf ByteArray.empty y216 t219).size) = False := eq_false (Nat.not_lt.2 c16)
                have c17b0 := eq_true (of_decide_eq_true (by first | (with_reducible assumption) | assumption) : 0 ≤ t210)
                have c18b0 := eq_true (of_decide_eq_true (by first | (with_reducible assumption) | assumption) : t210 ≤ (a1.size : Int))
                by_cases c19 : ((a1.extract 0 (t210 : Int).toNat) ++ (rdOf ByteArray.empty y216 t219)).size + (a1.extract (t210 : Int).toNat a1.size).size ≤ 9223372036854775807
                · rw [if_pos c19] at H
                  have c19b0 := eq_true c19
                  have c19b1 : decide (((a1.extract 0 (t210 : Int).toNat) ++ (rdOf ByteArray.empty y216 t219)).size + (a1.extract (t210 : Int).toNat a1.size).size ≤ 9223372036854775807) = true := decide_eq_true c19
                  have c19z0 : (9223372036854775807 < (a1.extract 0 (t210 : Int).toNat).size + (rdOf ByteArray.empty y216 t219).size + (a1.extract (t210 : Int).toNat a1.size).size) = False := eq_false (Nat.not_lt.2 (by have hq_ := c19; have e0_ : (⟨#[]⟩ : ByteArray).size = 0 := rfl; have e1_ : ∀ x : UInt8, (⟨#[x]⟩ : ByteArray).size = 1 := fun _ => rfl; (try simp only [ByteArray.size_append, e0_, e1_] at hq_); omega))
                  try have c19x0 : (9223372036854775807 < t210.toNat + (rdOf ByteArray.empty y216 t219).size + (a1.size - t210.toNat)) = False := eq_false (Nat.not_lt.2 (by have hq_ := c19; have hl0_ : t210 ≤ (a1.size : Int) := (by first | (with_reducible assumption) | (apply of_eq_true; with_reducible assumption) | (apply of_decide_eq_true; with_reducible assumption)); have hl1_ : t210 ≤ (a1.size : Int) := (by first | (with_reducible assumption) | (apply of_eq_true; with_reducible assumption) | (apply of_decide_eq_true; with_reducible assumption)); (simp only [ByteArray.size_append, ByteArray.size_extract] at hq_); omega))
                  try have c19x1 : (t210.toNat + (rdOf ByteArray.empty y216 t219).size + (a1.size - t210.toNat) ≤ 9223372036854775807) = True := eq_true (by have hq_ := c19; have hl0_ : t210 ≤ (a1.size : Int) := (by first | (with_reducible assumption) | (apply of_eq_true; with_reducible assumption) | (apply of_decide_eq_true; with_reducible assumption)); have hl1_ : t210 ≤ (a1.size : Int) := (by first | (with_reducible assumption) | (apply of_eq_true; with_reducible assumption) | (apply of_decide_eq_true; with_reducible assumption)); (simp only [ByteArray.size_append, ByteArray.size_extract] at hq_); omega)
                  try have c19b2 : (9223372036854775807 < ((a1.extract 0 (t210 : Int).toNat) ++ (rdOf ByteArray.empty y216 t219)).size + (a1.extract (t210 : Int).toNat a1.size).size) = False := eq_false (Nat.not_lt.2 c19)
                  simp only [Option.some.injEq, Prod.mk.injEq] at H
                  obtain ⟨rfl, rfl, rfl⟩ := H
                  go_enter Tryd.func54, Tryd.ntmps54
                  try go_wp2_with (first | ((with_reducible refine gate_callee (f := 38) rfl ?_); refine goesL_ (some 10) rfl rfl Tryd.func38 (by kernel_rfl) rfl #[.pointer (some ⟨g, 0, none⟩), .int .i64 (wrap64 ((a1.size : Int) + 1))] rfl (by (try simp only [List.map_toArray, List.map_cons, List.map_nil]); first | done | rfl | (simp only [List.length_drop, List.length_take]; rfl)) ?_; (with_reducible refine (spec_l01Next.calls g s0_0 s0_1 s0_2 (wrap64 ((a1.size : Int) + 1)) t210 t211 t212 w0 _ ?side1 ?side2 A3.out).mono ?_); (case side1 => repeat (first | (with_reducible first | exact HI0.out | apply IsS87.alloc | apply IsS87.drewN | apply IsS87.drew | apply IsS87.set_1 | apply IsS87.set_2) | exact HI0.out)); (case side2 => repeat (first | (with_reducible first | exact HB.out | apply below_alloc | apply pw_below_drewN | apply below_drew1 | refine below_set ?_ (IsS87.ge HI0.out)) | exact HB.out)); rintro e w20 ⟨rfl, hi, hb, hk⟩; refine ⟨_, rfl, ?_⟩; have n0_ := Aside0.mk (KeepBut.trans (by repeat (first | (with_reducible first | exact HK.out | apply KeepBut.set_ | apply keep_drewN | apply keep_drew | apply keep_alloc) | exact HK.out)) hk (.inl rfl)); have n1_ := Aside0.mk (hb); have n2_ := Aside0.mk (hi); clear HK; clear HB; clear HI0; have HK := n0_; have HB := n1_; have HI0 := n2_; clear n0_ n1_ n2_; (try clear hb); (try clear hb2); (try clear hk); (try clear hi)) | ((with_reducible refine gate_callee (f := 38) rfl ?_); refine goesL_ (some 12) rfl rfl Tryd.func38 (by kernel_rfl) rfl #[.pointer (some ⟨g, 0, none⟩), .int .i64 8] rfl (by (try simp only [List.map_toArray, List.map_cons, List.map_nil]); first | done | rfl | (simp only [List.length_drop, List.length_take]; rfl)) ?_; (with_reducible refine (spec_l01Next.calls g s0_0 t211 t212 8 t213 t214 t215 w0 _ ?side1 ?side2 A4.out).mono ?_); (case side1 => repeat (first | (with_reducible first | exact HI0.out | apply IsS87.alloc | apply IsS87.drewN | apply IsS87.drew | apply IsS87.set_1 | apply IsS87.set_2) | exact HI0.out)); (case side2 => repeat (first | (with_reducible first | exact HB.out | apply below_alloc | apply pw_below_drewN | apply below_drew1 | refine below_set ?_ (IsS87.ge HI0.out)) | exact HB.out)); rintro e w21 ⟨rfl, hi, hb, hk⟩; refine ⟨_, rfl, ?_⟩; have n0_ := Aside0.mk (KeepBut.trans (by repeat (first | (with_reducible first | exact HK.out | apply KeepBut.set_ | apply keep_drewN | apply keep_drew | apply keep_alloc) | exact HK.out)) hk (.inl rfl)); have n1_ := Aside0.mk (hb); have n2_ := Aside0.mk (hi); clear HK; clear HB; clear HI0; have HK := n0_; have HB := n1_; have HI0 := n2_; clear n0_ n1_ n2_; (try clear hb); (try clear hb2); (try clear hk); (try clear hi)))
                  have pi222 : (0 ≤ (t219 : Int)) = True := eq_true (of_decide_eq_true (by first | (with_reducible assumption) | assumption))
                  have qi222 : (t219 < (y216.length : Int)) = True := eq_true (of_decide_eq_true (by first | (with_reducible assumption) | assumption))
                  have n0_ := Aside0.mk (IsS87.drew HI0.out)
                  have n1_ := Aside0.mk (keep_drew HK.out)
                  have n2_ := Aside0.mk (below_drew1 HB.out)
                  clear HI0
                  clear HK
                  clear HB
                  have HI0 := n0_
                  have HK := n1_
                  have HB := n2_
                  clear n0_ n1_ n2_
                  refine start_ (n := 14) (S := fun w' => True) (ds := []) #[false, false, false, false, false, false, false, false, false, false, false, false, false, false] (by kernel_rfl) rfl rfl trivial (fun hHeld => ?_); refine with_tabW spec_l01Damage.tab6 spec_l01Damage.bits6 (fun HT_ HW_ => ?_)
                  generalize w21.drew = w22 at HI0 HK HB hHeld ⊢
                  refine pure_ (i := 0) (N := some 20) (v := ?_) (a' := ?_) #[true, false, false, false, false, false, false, false, false, false, false, false, false, false] rfl rfl (any_of HT_.out (by kernel_rfl)) (fun _ _ _ h => h) (Or.inl ⟨by rfl, ?_⟩) ?_ ?_
                  rotate_left
                  · intro w'
                    go_simp
                    with_reducible rfl
                  rotate_left
                  · simp only [Act.put, List.setIfInBounds_toArray, List.set_cons_zero, List.set_cons_succ, i64_w, i32_w]
                    rfl
                  refine pure_ (i := 1) (N := some 21) (v := ?_) (a' := ?_) #[true, true, false, false, false, false, false, false, false, false, false, false, false, false] rfl rfl (any_of HT_.out (by kernel_rfl)) (fun _ _ _ h => h) (Or.inl ⟨by rfl, ?_⟩) ?_ ?_
                  rotate_left
                  · intro w'
                    go_simp
                    with_reducible rfl
                  rotate_left
                  · simp only [Act.put, List.setIfInBounds_toArray, List.set_cons_zero, List.set_cons_succ, i64_w, i32_w]
                    rfl
                  refine pure_ (i := 4) (N := some 24) (v := ?_) (a' := ?_) #[true, true, false, false, true, false, false, false, false, false, false, false, false, false] rfl rfl (any_of HT_.out (by kernel_rfl)) (fun _ _ _ h => h) (Or.inl ⟨by rfl, ?_⟩) ?_ ?_
                  rotate_left
                  · intro w'
                    go_simp
                    with_reducible rfl
                  rotate_left
                  · simp only [Act.put, List.setIfInBounds_toArray, List.set_cons_zero, List.set_cons_succ, i64_w, i32_w]
                    rfl
                  refine pure_ (i := 9) (N := some 29) (v := ?_) (a' := ?_) #[true, true, false, false, true, false, false, false, false, true, false, false, false, false] rfl rfl (any_of HT_.out (by kernel_rfl)) (fun _ _ _ h => h) (Or.inl ⟨by rfl, ?_⟩) ?_ ?_
                  rotate_left
                  · intro w'
                    go_simp
                    with_reducible rfl
                  rotate_left
                  · simp only [Act.put, List.setIfInBounds_toArray, List.set_cons_zero, List.set_cons_succ, i64_w, i32_w]
                    rfl
                  refine pure_ (i := 10) (N := some 30) (v := ?_) (a' := ?_) #[true, true, false, false, true, false, false, false, false, true, true, false, false, false] rfl rfl (any_of HT_.out (by kernel_rfl)) (fun _ _ _ h => h) (Or.inl ⟨by rfl, ?_⟩) ?_ ?_
                  rotate_left
                  · intro w'
                    go_simp
                    with_reducible rfl
                  rotate_left
                  · simp only [Act.put, List.setIfInBounds_toArray, List.set_cons_zero, List.set_cons_succ, i64_w, i32_w]
                    rfl
                  refine inv_at [2, 3, 5, 6, 7, 8, 11, 12, 13] (fun a0_ b a w' => ∃ (v217 : Value) (adz_v217 : Addr) (m6_ : Value), a = putSel a0_ b [(2, 22, .string (a1.extract 0 (t210 : Int).toNat)), (3, 23, v217), (5, 25, .int .i64 t219), (6, 26, m6_), (7, 27, .string (rdOf ByteArray.empty y216 t219)), (8, 28, .string ((a1.extract 0 (t210 : Int).toNat) ++ (rdOf ByteArray.empty y216 t219))), (11, 31, .string (a1.extract (t210 : Int).toNat a1.size)), (12, 32, .string (((a1.extract 0 (t210 : Int).toNat) ++ (rdOf ByteArray.empty y216 t219)) ++ (a1.extract (t210 : Int).toNat a1.size))), (13, 4, .string (((a1.extract 0 (t210 : Int).toNat) ++ (rdOf ByteArray.empty y216 t219)) ++ (a1.extract (t210 : Int).toNat a1.size)))] ∧ (b 5 = false → IsS87 w0 w' g s0_0 t214 t215) ∧ (KeepBut w w' g none) ∧ (Below w0.heap.size w0 w') ∧ (b 3 = true → Kd.R Kd.string 9 w' w.heap.size (fun _ => True) v217 y216) ∧ (b 3 = true → ∃ c_, (v217 : Value) = .slice (some adz_v217) y216.length c_) ∧ (b 5 = true → IsS87 w0 w' g s0_0 t220 t221) ∧ (b 6 = true → (m6_ : Value) = .pointer (some (adz_v217.add (t219).toNat)))) HT_.out HW_.out (by kernel_rfl) (by kernel_rfl) ?_ ?_ ?_
                  · exact ⟨.bool false, ⟨0, 0, none⟩, .bool false, by simp only [putSel, Bool.false_eq_true, if_false], fun _ => HI0.out, HK.out, HB.out, fun h_ => absurd h_ (by decide), fun h_ => absurd h_ (by decide), fun h_ => absurd h_ (by decide), fun h_ => absurd h_ (by decide)⟩
                  · skip
                    clear HB HI0 HK
                    refine steps_cons ?_ ?_
                    · rintro b a w' ⟨v217, adz_v217, m6_, ha, Q_HI0, Q_HK, Q_HB, Q_HO218, Q_HA_HO218, Q_HI0_e5, Q_X6_⟩ hb_ hon hoff
                      refine ⟨_, rfl, fun K hK => ?_⟩
                      have e20 : a.tmps[20]? = some (.string a1) := by rw [ha]; exact (putSel_off rfl).trans rfl
                      have e21 : a.tmps[21]? = some (.int .i64 t210) := by rw [ha]; exact (putSel_off rfl).trans rfl
                      replace ha := Aside0.mk ha
                      have HK := Aside0.mk Q_HK
                      have HB := Aside0.mk Q_HB
                      refine value_ (w1 := w') (v := .string (a1.extract 0 (t210 : Int).toNat)) (by rfl) rfl ?_ ?_
                      · go_simp
                        (try simp only [i64_w])
                        try rfl
                      refine hK.out _ _ ⟨v217, adz_v217, m6_, (by rw [ha.out]; exact putSel_upk 0 hb_ rfl rfl rfl), Q_HI0, Q_HK, Q_HB, Q_HO218, Q_HA_HO218, Q_HI0_e5, Q_X6_⟩
                    refine steps_cons ?_ ?_
                    · rintro b a w' ⟨v217, adz_v217, m6_, ha, Q_HI0, Q_HK, Q_HB, Q_HO218, Q_HA_HO218, Q_HI0_e5, Q_X6_⟩ hb_ hon hoff
                      refine ⟨_, rfl, fun K hK => ?_⟩
                      replace ha := Aside0.mk ha
                      have HK := Aside0.mk Q_HK
                      have HB := Aside0.mk Q_HB
                      refine Kd.R_lit_step Kd.string _ 9 ?hg (N := 23) ?hd (xs := ([(⟨#[48]⟩ : ByteArray), (⟨#[35]⟩ : ByteArray), (⟨#[46]⟩ : ByteArray), (⟨#[47]⟩ : ByteArray), (⟨#[32]⟩ : ByteArray), (⟨#[97]⟩ : ByteArray), (⟨#[45]⟩ : ByteArray), (⟨#[10]⟩ : ByteArray)] : List ByteArray)) (inner := [.string (⟨#[48]⟩ : ByteArray), .string (⟨#[35]⟩ : ByteArray), .string (⟨#[46]⟩ : ByteArray), .string (⟨#[47]⟩ : ByteArray), .string (⟨#[32]⟩ : ByteArray), .string (⟨#[97]⟩ : ByteArray), .string (⟨#[45]⟩ : ByteArray), .string (⟨#[10]⟩ : ByteArray)]) (ok := fun _ => True) (okp := fun _ => True) ?hr ?hp (fun _ hk => hk) trivial (Below.refl _ _) (Nat.le_refl _) (by simp) ?_; (case hd => rfl); (case hg => rfl); (case hr => first | (go_simp; done) | (go_simp; rfl)); (case hp => exact (Reps.one (show Kd.M Kd.string _ _ _ (⟨#[48]⟩ : ByteArray) [.string (⟨#[48]⟩ : ByteArray)] from rfl) (Reps.one (show Kd.M Kd.string _ _ _ (⟨#[35]⟩ : ByteArray) [.string (⟨#[35]⟩ : ByteArray)] from rfl) (Reps.one (show Kd.M Kd.string _ _ _ (⟨#[46]⟩ : ByteArray) [.string (⟨#[46]⟩ : ByteArray)] from rfl) (Reps.one (show Kd.M Kd.string _ _ _ (⟨#[47]⟩ : ByteArray) [.string (⟨#[47]⟩ : ByteArray)] from rfl) (Reps.one (show Kd.M Kd.string _ _ _ (⟨#[32]⟩ : ByteArray) [.string (⟨#[32]⟩ : ByteArray)] from rfl) (Reps.one (show Kd.M Kd.string _ _ _ (⟨#[97]⟩ : ByteArray) [.string (⟨#[97]⟩ : ByteArray)] from rfl) (Reps.one (show Kd.M Kd.string _ _ _ (⟨#[45]⟩ : ByteArray) [.string (⟨#[45]⟩ : ByteArray)] from rfl) (Reps.one (show Kd.M Kd.string _ _ _ (⟨#[10]⟩ : ByteArray) [.string (⟨#[10]⟩ : ByteArray)] from rfl) (Reps.none _ _))))))))))
                      intro v217 w23 ho24 hb hg_ hnew_
                      clear hg_ hnew_
                      (first | rw [← Ny216.out] at ho24 | (simp only [Int.reduceToNat] at ho24; rw [← Ny216.out] at ho24))
                      have n0_ := Aside0.mk (Kd.R_lower ho24 (keep_size (w := w) (g := g) (row := none) (by repeat (first | (with_reducible first | exact HK.out | apply KeepBut.set_ | apply keep_drewN | apply keep_drew | apply keep_alloc) | exact HK.out))))
                      have n2_ := Aside0.mk (KeepBut.trans (by repeat (first | (with_reducible first | exact HK.out | apply KeepBut.set_ | apply keep_drewN | apply keep_drew | apply keep_alloc) | exact HK.out)) (KeepBut.of_below hb g none) (.inl rfl))
                      have n3_ := Aside0.mk (below_step (by repeat (first | (with_reducible first | exact HB.out | apply below_alloc | apply pw_below_drewN | apply below_drew1) | exact HB.out)) hb)
                      have z_HI0 := fun (h0_ : b 5 = false) => (show IsS87 w0 w23 g s0_0 t214 t215 from by first | exact (IsS87.below (by repeat (first | (with_reducible first | exact (Q_HI0 h0_) | apply IsS87.alloc | apply IsS87.drewN | apply IsS87.drew | apply IsS87.set_1 | apply IsS87.set_2) | exact (Q_HI0 h0_))) hb))
                      have z_HI0_e5 := fun (h0_ : b 5 = true) => (show IsS87 w0 w23 g s0_0 t220 t221 from by first | exact (IsS87.below (by repeat (first | (with_reducible first | exact (Q_HI0_e5 h0_) | apply IsS87.alloc | apply IsS87.drewN | apply IsS87.drew | apply IsS87.set_1 | apply IsS87.set_2) | exact (Q_HI0_e5 h0_))) hb))
                      clear HK
                      clear HB
                      have HO218 := n0_
                      have HK := n2_
                      have HB := n3_
                      clear n0_ n2_ n3_
                      clear hb ho24
                      obtain ⟨Ao25, co25, eo25⟩ := Kd.R_slice HO218.out
                      subst eo25
                      obtain ⟨ado25, fo25, _⟩ := Kd.at_string (Kd.R_reads' HO218.out).2.2 0 (by decide) (by rw [Ny216.out]; simp)
                      cases fo25
                      refine hK.out _ _ ⟨.slice (some ado25) y216.length co25, ado25, m6_, (by rw [ha.out]; exact putSel_upk 1 hb_ rfl rfl rfl), z_HI0, (by repeat (first | (with_reducible first | exact HK.out | apply KeepBut.set_ | apply keep_drewN | apply keep_drew | apply keep_alloc) | exact HK.out)), (by repeat (first | (with_reducible first | exact HB.out | apply below_alloc | apply pw_below_drewN | apply below_drew1) | exact HB.out)), fun _ => (by (with_reducible repeat (first | apply Kd.R_alloc | apply Kd.R_drewN | apply Kd.R_drew)); exact HO218.out), fun _ => ⟨_, rfl⟩, z_HI0_e5, fun h0_ => absurd ((hoff 6 (by kernel_rfl)).symm.trans h0_) (by decide)⟩
                    refine steps_cons ?_ ?_
                    · rintro b a w' ⟨v217, adz_v217, m6_, ha, Q_HI0, Q_HK, Q_HB, Q_HO218, Q_HA_HO218, Q_HI0_e5, Q_X6_⟩ hb_ hon hoff
                      refine ⟨_, rfl, fun K hK => ?_⟩
                      have e24 : a.tmps[24]? = some (.pointer (some ⟨g, 0, none⟩)) := by rw [ha]; exact (putSel_off rfl).trans rfl
                      replace ha := Aside0.mk ha
                      have HI0 := Aside0.mk (Q_HI0 hb_)
                      have HK := Aside0.mk Q_HK
                      have HB := Aside0.mk Q_HB
                      refine goes_ Tryd.func38 (by kernel_rfl) rfl #[.pointer (some ⟨g, 0, none⟩), .int .i64 8] (by rfl) rfl rfl (by first | (simp only [List.map_toArray, List.map_cons, List.map_nil, Act.eval, Array.getD_eq_getD_getElem?, Option.getD_some, e24]; done) | (simp only [List.map_toArray, List.map_cons, List.map_nil, Act.eval, Array.getD_eq_getD_getElem?, Option.getD_some, e24]; rfl)) ?_
                      with_reducible refine (spec_l01Next.calls g s0_0 t214 t215 8 t219 t220 t221 w0 _ ?side1 ?side2 A13.out).mono ?_
                      (case side1 => repeat (first | (with_reducible first | exact HI0.out | apply IsS87.alloc | apply IsS87.drewN | apply IsS87.drew | apply IsS87.set_1 | apply IsS87.set_2) | exact HI0.out))
                      (case side2 => repeat (first | (with_reducible first | exact HB.out | apply below_alloc | apply pw_below_drewN | apply below_drew1 | refine below_set ?_ (IsS87.ge HI0.out)) | exact HB.out))
                      rintro e w23 ⟨rfl, hi, hb, hk⟩
                      refine ⟨_, rfl, ?_⟩
                      have n0_ := Aside0.mk (KeepBut.trans (by repeat (first | (with_reducible first | exact HK.out | apply KeepBut.set_ | apply keep_drewN | apply keep_drew | apply keep_alloc) | exact HK.out)) hk (.inl rfl))
                      have n1_ := Aside0.mk (hb)
                      have n2_ := Aside0.mk (hi)
                      have z_HO218 := fun (h0_ : b 3 = true) => (show Kd.R Kd.string 9 w23 w.heap.size (fun _ => True) v217 y216 from by first | exact (Kd.R_mono (Kd.R_keep (IsS87.apart (show IsS87 w0 _ g s0_0 t214 t215 from by repeat (first | (with_reducible first | exact HI0.out | apply IsS87.alloc | apply IsS87.drewN | apply IsS87.drew | apply IsS87.set_1 | apply IsS87.set_2) | exact HI0.out)) (by (with_reducible repeat (first | apply Kd.R_alloc | apply Kd.R_drewN | apply Kd.R_drew)); exact (Q_HO218 h0_)) (by decide)) hk (fun _ h => h.2)) (fun _ h => h.1)) | exact Kd.R_mono (Kd.R_mono (Kd.R_keep (IsS87.apart (show IsS87 w0 _ g s0_0 t214 t215 from by repeat (first | (with_reducible first | exact HI0.out | apply IsS87.alloc | apply IsS87.drewN | apply IsS87.drew | apply IsS87.set_1 | apply IsS87.set_2) | exact HI0.out)) (by (with_reducible repeat (first | apply Kd.R_alloc | apply Kd.R_drewN | apply Kd.R_drew)); exact (Q_HO218 h0_)) (by decide)) hk (fun _ h => h.2)) (fun _ h => h.1)) (fun _ h_ => by first | trivial | exact h_ | exact h_.1))
                      clear HK
                      clear HB
                      clear HI0
                      have HK := n0_
                      have HB := n1_
                      have HI0 := n2_
                      clear n0_ n1_ n2_
                      (try clear hb)
                      (try clear hb2)
                      (try clear hk)
                      (try clear hi)
                      refine hK.out _ _ ⟨v217, adz_v217, m6_, (by rw [ha.out]; exact putSel_upk 2 hb_ rfl rfl rfl), fun h0_ => absurd ((up_self b 5).symm.trans h0_) (by decide), (by repeat (first | (with_reducible first | exact HK.out | apply KeepBut.set_ | apply keep_drewN | apply keep_drew | apply keep_alloc) | exact HK.out)), (by repeat (first | (with_reducible first | exact HB.out | apply below_alloc | apply pw_below_drewN | apply below_drew1 | refine below_set ?_ (IsS87.ge HI0.out)) | exact HB.out)), z_HO218, Q_HA_HO218, fun _ => (by repeat (first | (with_reducible first | exact HI0.out | apply IsS87.alloc | apply IsS87.drewN | apply IsS87.drew | apply IsS87.set_1 | apply IsS87.set_2) | exact HI0.out)), fun h0_ => absurd ((hoff 6 (by kernel_rfl)).symm.trans h0_) (by decide)⟩
                    refine steps_cons ?_ ?_
                    · rintro b a w' ⟨v217, adz_v217, m6_, ha, Q_HI0, Q_HK, Q_HB, Q_HO218, Q_HA_HO218, Q_HI0_e5, Q_X6_⟩ hb_ hon hoff
                      refine ⟨_, rfl, fun K hK => ?_⟩
                      have e23 : a.tmps[23]? = some (v217) := by rw [ha]; exact putSel_on (e := (3, 23, v217)) 1 rfl rfl (hon 3 (by kernel_rfl)) rfl
                      have e25 : a.tmps[25]? = some (.int .i64 t219) := by rw [ha]; exact putSel_on (e := (5, 25, .int .i64 t219)) 2 rfl rfl (hon 5 (by kernel_rfl)) rfl
                      replace ha := Aside0.mk ha
                      have HK := Aside0.mk Q_HK
                      have HB := Aside0.mk Q_HB
                      have HO218 := Aside0.mk (Q_HO218 (hon 3 (by kernel_rfl)))
                      have HA_HO218 := Aside0.mk (Q_HA_HO218 (hon 3 (by kernel_rfl)))
                      have HI0 := Aside0.mk (Q_HI0_e5 (hon 5 (by kernel_rfl)))
                      obtain ⟨c_, hv_⟩ := HA_HO218.out
                      rw [hv_] at e23
                      refine value_ (w1 := w') (v := .pointer (some (adz_v217.add (t219).toNat))) (by rfl) rfl ?_ ?_
                      · go_simp
                        (try simp only [i64_w])
                        try rfl
                      refine hK.out _ _ ⟨v217, adz_v217, (.pointer (some (adz_v217.add (t219).toNat))), (by rw [ha.out]; exact putSel_upk 3 hb_ rfl rfl rfl), fun h0_ => absurd ((hon 5 (by kernel_rfl)).symm.trans h0_) (by decide), Q_HK, Q_HB, Q_HO218, Q_HA_HO218, Q_HI0_e5, fun _ => rfl⟩
                    refine steps_cons ?_ ?_
                    · rintro b a w' ⟨v217, adz_v217, m6_, ha, Q_HI0, Q_HK, Q_HB, Q_HO218, Q_HA_HO218, Q_HI0_e5, Q_X6_⟩ hb_ hon hoff
                      refine ⟨_, rfl, fun K hK => ?_⟩
                      have e26 : a.tmps[26]? = some (m6_) := by rw [ha]; exact putSel_on (e := (6, 26, m6_)) 3 rfl rfl (hon 6 (by kernel_rfl)) rfl
                      rw [Q_X6_ (hon 6 (by kernel_rfl))] at e26
                      replace ha := Aside0.mk ha
                      have HK := Aside0.mk Q_HK
                      have HB := Aside0.mk Q_HB
                      have HO218 := Aside0.mk (Q_HO218 (hon 3 (by kernel_rfl)))
                      have HA_HO218 := Aside0.mk (Q_HA_HO218 (hon 3 (by kernel_rfl)))
                      have HI0 := Aside0.mk (Q_HI0_e5 (hon 5 (by kernel_rfl)))
                      obtain ⟨c_, hv_⟩ := HA_HO218.out
                      have hF_ := HO218.out
                      rw [hv_] at hF_
                      obtain ⟨ad_, ea_, hx_⟩ := Kd.at_string (Kd.R_reads' hF_).2.2 t219 (of_eq_true pi222) (of_eq_true qi222)
                      cases ea_
                      refine value_ (w1 := w') (v := .string (rdOf ByteArray.empty y216 t219)) (by rfl) rfl ?_ ?_
                      · go_simp
                        (try simp only [i64_w])
                        try rfl
                      refine hK.out _ _ ⟨v217, adz_v217, m6_, (by rw [ha.out]; exact putSel_upk 4 hb_ rfl rfl rfl), fun h0_ => absurd ((hon 5 (by kernel_rfl)).symm.trans h0_) (by decide), Q_HK, Q_HB, Q_HO218, Q_HA_HO218, Q_HI0_e5, Q_X6_⟩
                    refine steps_cons ?_ ?_
                    · rintro b a w' ⟨v217, adz_v217, m6_, ha, Q_HI0, Q_HK, Q_HB, Q_HO218, Q_HA_HO218, Q_HI0_e5, Q_X6_⟩ hb_ hon hoff
                      refine ⟨_, rfl, fun K hK => ?_⟩
                      have e22 : a.tmps[22]? = some (.string (a1.extract 0 (t210 : Int).toNat)) := by rw [ha]; exact putSel_on (e := (2, 22, .string (a1.extract 0 (t210 : Int).toNat))) 0 rfl rfl (hon 2 (by kernel_rfl)) rfl
                      have e27 : a.tmps[27]? = some (.string (rdOf ByteArray.empty y216 t219)) := by rw [ha]; exact putSel_on (e := (7, 27, .string (rdOf ByteArray.empty y216 t219))) 4 rfl rfl (hon 7 (by kernel_rfl)) rfl
                      replace ha := Aside0.mk ha
                      have HK := Aside0.mk Q_HK
                      have HB := Aside0.mk Q_HB
                      have HO218 := Aside0.mk (Q_HO218 (hon 3 (by kernel_rfl)))
                      have HA_HO218 := Aside0.mk (Q_HA_HO218 (hon 3 (by kernel_rfl)))
                      have HI0 := Aside0.mk (Q_HI0_e5 (hon 5 (by kernel_rfl)))
                      refine value_ (w1 := w') (v := .string ((a1.extract 0 (t210 : Int).toNat) ++ (rdOf ByteArray.empty y216 t219))) (by rfl) rfl ?_ ?_
                      · go_simp
                        (try simp only [i64_w])
                        try rfl
                      refine hK.out _ _ ⟨v217, adz_v217, m6_, (by rw [ha.out]; exact putSel_upk 5 hb_ rfl rfl rfl), fun h0_ => absurd ((hon 5 (by kernel_rfl)).symm.trans h0_) (by decide), Q_HK, Q_HB, Q_HO218, Q_HA_HO218, Q_HI0_e5, Q_X6_⟩
                    refine steps_cons ?_ ?_
                    · rintro b a w' ⟨v217, adz_v217, m6_, ha, Q_HI0, Q_HK, Q_HB, Q_HO218, Q_HA_HO218, Q_HI0_e5, Q_X6_⟩ hb_ hon hoff
                      refine ⟨_, rfl, fun K hK => ?_⟩
                      have e29 : a.tmps[29]? = some (.string a1) := by rw [ha]; exact (putSel_off rfl).trans rfl
                      have e30 : a.tmps[30]? = some (.int .i64 t210) := by rw [ha]; exact (putSel_off rfl).trans rfl
                      replace ha := Aside0.mk ha
                      have HK := Aside0.mk Q_HK
                      have HB := Aside0.mk Q_HB
                      refine value_ (w1 := w') (v := .string (a1.extract (t210 : Int).toNat a1.size)) (by rfl) rfl ?_ ?_
                      · go_simp
                        (try simp only [i64_w])
                        try rfl
                      refine hK.out _ _ ⟨v217, adz_v217, m6_, (by rw [ha.out]; exact putSel_upk 6 hb_ rfl rfl rfl), Q_HI0, Q_HK, Q_HB, Q_HO218, Q_HA_HO218, Q_HI0_e5, Q_X6_⟩
                    refine steps_cons ?_ ?_
                    · rintro b a w' ⟨v217, adz_v217, m6_, ha, Q_HI0, Q_HK, Q_HB, Q_HO218, Q_HA_HO218, Q_HI0_e5, Q_X6_⟩ hb_ hon hoff
                      refine ⟨_, rfl, fun K hK => ?_⟩
                      have e28 : a.tmps[28]? = some (.string ((a1.extract 0 (t210 : Int).toNat) ++ (rdOf ByteArray.empty y216 t219))) := by rw [ha]; exact putSel_on (e := (8, 28, .string ((a1.extract 0 (t210 : Int).toNat) ++ (rdOf ByteArray.empty y216 t219)))) 5 rfl rfl (hon 8 (by kernel_rfl)) rfl
                      have e31 : a.tmps[31]? = some (.string (a1.extract (t210 : Int).toNat a1.size)) := by rw [ha]; exact putSel_on (e := (11, 31, .string (a1.extract (t210 : Int).toNat a1.size))) 6 rfl rfl (hon 11 (by kernel_rfl)) rfl
                      replace ha := Aside0.mk ha
                      have HK := Aside0.mk Q_HK
                      have HB := Aside0.mk Q_HB
                      have HO218 := Aside0.mk (Q_HO218 (hon 3 (by kernel_rfl)))
                      have HA_HO218 := Aside0.mk (Q_HA_HO218 (hon 3 (by kernel_rfl)))
                      have HI0 := Aside0.mk (Q_HI0_e5 (hon 5 (by kernel_rfl)))
                      refine value_ (w1 := w') (v := .string (((a1.extract 0 (t210 : Int).toNat) ++ (rdOf ByteArray.empty y216 t219)) ++ (a1.extract (t210 : Int).toNat a1.size))) (by rfl) rfl ?_ ?_
                      · go_simp
                        (try simp only [i64_w])
                        try rfl
                      refine hK.out _ _ ⟨v217, adz_v217, m6_, (by rw [ha.out]; exact putSel_upk 7 hb_ rfl rfl rfl), fun h0_ => absurd ((hon 5 (by kernel_rfl)).symm.trans h0_) (by decide), Q_HK, Q_HB, Q_HO218, Q_HA_HO218, Q_HI0_e5, Q_X6_⟩
                    refine steps_cons ?_ ?_
                    · rintro b a w' ⟨v217, adz_v217, m6_, ha, Q_HI0, Q_HK, Q_HB, Q_HO218, Q_HA_HO218, Q_HI0_e5, Q_X6_⟩ hb_ hon hoff
                      refine ⟨_, rfl, fun K hK => ?_⟩
                      have e32 : a.tmps[32]? = some (.string (((a1.extract 0 (t210 : Int).toNat) ++ (rdOf ByteArray.empty y216 t219)) ++ (a1.extract (t210 : Int).toNat a1.size))) := by rw [ha]; exact putSel_on (e := (12, 32, .string (((a1.extract 0 (t210 : Int).toNat) ++ (rdOf ByteArray.empty y216 t219)) ++ (a1.extract (t210 : Int).toNat a1.size)))) 7 rfl rfl (hon 12 (by kernel_rfl)) rfl
                      replace ha := Aside0.mk ha
                      have HK := Aside0.mk Q_HK
                      have HB := Aside0.mk Q_HB
                      have HO218 := Aside0.mk (Q_HO218 (hon 3 (by kernel_rfl)))
                      have HA_HO218 := Aside0.mk (Q_HA_HO218 (hon 3 (by kernel_rfl)))
                      have HI0 := Aside0.mk (Q_HI0_e5 (hon 5 (by kernel_rfl)))
                      refine value_ (w1 := w') (v := .string (((a1.extract 0 (t210 : Int).toNat) ++ (rdOf ByteArray.empty y216 t219)) ++ (a1.extract (t210 : Int).toNat a1.size))) (by rfl) rfl ?_ ?_
                      · go_simp
                        (try simp only [i64_w])
                        try rfl
                      refine hK.out _ _ ⟨v217, adz_v217, m6_, (by rw [ha.out]; exact putSel_upk 8 hb_ rfl rfl rfl), fun h0_ => absurd ((hon 5 (by kernel_rfl)).symm.trans h0_) (by decide), Q_HK, Q_HB, Q_HO218, Q_HA_HO218, Q_HI0_e5, Q_X6_⟩
                    exact steps_nil
                  rintro b a w27 hall ⟨v217, adz_v217, m6_, ha, Q_HI0, Q_HK, Q_HB, Q_HO218, Q_HA_HO218, Q_HI0_e5, Q_X6_⟩
                  clear HB HI0 HK
                  have hb2_ := hall 2 (by kernel_rfl)
                  have hb3_ := hall 3 (by kernel_rfl)
                  have hb5_ := hall 5 (by kernel_rfl)
                  have hb6_ := hall 6 (by kernel_rfl)
                  have hb7_ := hall 7 (by kernel_rfl)
                  have hb8_ := hall 8 (by kernel_rfl)
                  have hb11_ := hall 11 (by kernel_rfl)
                  have hb12_ := hall 12 (by kernel_rfl)
                  have hb13_ := hall 13 (by kernel_rfl)
                  subst ha
                  obtain rfl := Q_X6_ hb6_
                  simp only [putSel, hb2_, hb3_, hb5_, hb6_, hb7_, hb8_, hb11_, hb12_, hb13_, if_true, Act.put, List.setIfInBounds_toArray, List.set_cons_zero, List.set_cons_succ]
                  clear Q_HI0
                  have HK := Aside0.mk Q_HK
                  clear Q_HK
                  have HB := Aside0.mk Q_HB
                  clear Q_HB
                  have HO218 := Aside0.mk (Q_HO218 hb3_)
                  clear Q_HO218
                  have HA_HO218 := Aside0.mk (Q_HA_HO218 hb3_)
                  clear Q_HA_HO218
                  have HI0 := Aside0.mk (Q_HI0_e5 hb5_)
                  clear Q_HI0_e5
                  clear hall hb2_ hb3_ hb5_ hb6_ hb7_ hb8_ hb11_ hb12_ hb13_
                  obtain ⟨co28, eo28⟩ := HA_HO218.out
                  clear HA_HO218
                  subst eo28
                  try go_wp2
                  go_ret
                  exact ⟨by first | rfl | (simp [errW_none, errW_some] <;> rfl) | (simp [*, errW_none, errW_some] <;> rfl), by repeat (first | (with_reducible first | exact HI0.out | apply IsS87.alloc | apply IsS87.drewN | apply IsS87.drew | apply IsS87.set_1 | apply IsS87.set_2) | exact HI0.out), by repeat (first | (with_reducible first | exact HB.out | apply below_alloc | apply pw_below_drewN | apply below_drew1 | refine below_set ?_ (IsS87.ge HI0.out)) | exact HB.out), by repeat (first | (with_reducible first | exact HK.out | apply KeepBut.set_ | apply keep_drewN | apply keep_drew | apply keep_alloc) | exact HK.out)⟩
                · rw [if_neg c19] at H
                  exact absurd H (by simp)
              · rw [if_neg c16] at H
                exact absurd H (by simp)
            · rw [if_neg c15] at H
              exact absurd H (by simp)
          · rw [if_neg c14] at H
            exact absurd H (by simp)
        · rw [if_neg c12] at H
          exact absurd H (by simp)
      · rw [if_neg c11] at H
        exact absurd H (by simp)
    · rw [if_neg c10] at H
      have c10b0 : (t213 == 1) = false := beq_eq_false_iff_ne.mpr c10
      have c10b1 : (t213 != 1) = true := bne_iff_ne.mpr c10
      by_cases c29 : t213 = 2
      · rw [if_pos c29] at H
        have c29b0 : (t213 == 2) = true := beq_iff_eq.mpr c29
        have c29b1 : (t213 != 2) = false := bne_eq_false_iff_eq.mpr c29
        clear c29
        by_cases c30 : t210 < (a1.size : Int)
        · rw [if_pos c30] at H
          have c30b0 : decide (t210 < (a1.size : Int)) = true := decide_eq_true c30
          clear c30
          by_cases c31 : 0 ≤ t210
          · rw [if_pos c31] at H
            have c31b0 := eq_true c31
            have c31b1 : decide (0 ≤ t210) = true := decide_eq_true c31
            clear c31
            by_cases c32 : t210 ≤ (a1.size : Int)
            · rw [if_pos c32] at H
              have c32b0 := eq_true c32
              have c32b1 : decide (t210 ≤ (a1.size : Int)) = true := decide_eq_true c32
              clear c32
              obtain ⟨ji33, hji33⟩ : ∃ j_ : Int, (wrap64 (t210 + 1)) = j_ := ⟨_, rfl⟩
              replace H : (if 0 ≤ (ji33) then (if (ji33) ≤ (a1.size : Int) then (if (a1.extract 0 (t210 : Int).toNat).size + (a1.extract ((ji33) : Int).toNat a1.size).size ≤ 9223372036854775807 then (some ((a1.extract 0 (t210 : Int).toNat) ++ (a1.extract ((ji33) : Int).toNat a1.size), t214, t215)) else (none)) else (none)) else (none)) = some (r1, r2, r3) := by first | (rw [hji33] at H; exact H) | (simp only [hji33] at H ⊢; exact H)
              (try rw [hji33] at A3)
              (try rw [hji33] at A4)
              have hji33w : (IntKind.i64.wrap (t210 + 1)) = ji33 := (i64_w _).trans hji33
              by_cases c34 : 0 ≤ (ji33)
              · rw [if_pos c34] at H
                have c34b0 := eq_true c34
                have c34b1 : decide (0 ≤ (ji33)) = true := decide_eq_true c34
                clear c34
                by_cases c35 : (ji33) ≤ (a1.size : Int)
                · rw [if_pos c35] at H
                  have c35b0 := eq_true c35
                  have c35b1 : decide ((ji33) ≤ (a1.size : Int)) = true := decide_eq_true c35
                  clear c35
                  by_cases c36 : (a1.extract 0 (t210 : Int).toNat).size + (a1.extract ((ji33) : Int).toNat a1.size).size ≤ 9223372036854775807
                  · rw [if_pos c36] at H
                    have c36b0 := eq_true c36
                    have c36b1 : decide ((a1.extract 0 (t210 : Int).toNat).size + (a1.extract ((ji33) : Int).toNat a1.size).size ≤ 9223372036854775807) = true := decide_eq_true c36
                    try have c36x0 : (9223372036854775807 < t210.toNat + (a1.size - ji33.toNat)) = False := eq_false (Nat.not_lt.2 (by have hq_ := c36; have hl0_ : t210 ≤ (a1.size : Int) := (by first | (with_reducible assumption) | (apply of_eq_true; with_reducible assumption) | (apply of_decide_eq_true; with_reducible assumption)); have hl1_ : ji33 ≤ (a1.size : Int) := (by first | (with_reducible assumption) | (apply of_eq_true; with_reducible assumption) | (apply of_decide_eq_true; with_reducible assumption)); (simp only [ByteArray.size_append, ByteArray.size_extract] at hq_); omega))
                    try have c36x1 : (t210.toNat + (a1.size - ji33.toNat) ≤ 9223372036854775807) = True := eq_true (by have hq_ := c36; have hl0_ : t210 ≤ (a1.size : Int) := (by first | (with_reducible assumption) | (apply of_eq_true; with_reducible assumption) | (apply of_decide_eq_true; with_reducible assumption)); have hl1_ : ji33 ≤ (a1.size : Int) := (by first | (with_reducible assumption) | (apply of_eq_true; with_reducible assumption) | (apply of_decide_eq_true; with_reducible assumption)); (simp only [ByteArray.size_append, ByteArray.size_extract] at hq_); omega)
                    try have c36b2 : (9223372036854775807 < (a1.extract 0 (t210 : Int).toNat).size + (a1.extract ((ji33) : Int).toNat a1.size).size) = False := eq_false (Nat.not_lt.2 c36)
                    simp only [Option.some.injEq, Prod.mk.injEq] at H
                    obtain ⟨rfl, rfl, rfl⟩ := H
                    go_enter Tryd.func54, Tryd.ntmps54
                    try go_wp2_with (first | ((with_reducible refine gate_callee (f := 38) rfl ?_); refine goesL_ (some 10) rfl rfl Tryd.func38 (by kernel_rfl) rfl #[.pointer (some ⟨g, 0, none⟩), .int .i64 (wrap64 ((a1.size : Int) + 1))] rfl (by (try simp only [List.map_toArray, List.map_cons, List.map_nil]); first | done | rfl | (simp only [List.length_drop, List.length_take]; rfl)) ?_; (with_reducible refine (spec_l01Next.calls g s0_0 s0_1 s0_2 (wrap64 ((a1.size : Int) + 1)) t210 t211 t212 w0 _ ?side1 ?side2 A3.out).mono ?_); (case side1 => repeat (first | (with_reducible first | exact HI0.out | apply IsS87.alloc | apply IsS87.drewN | apply IsS87.drew | apply IsS87.set_1 | apply IsS87.set_2) | exact HI0.out)); (case side2 => repeat (first | (with_reducible first | exact HB.out | apply below_alloc | apply pw_below_drewN | apply below_drew1 | refine below_set ?_ (IsS87.ge HI0.out)) | exact HB.out)); rintro e w37 ⟨rfl, hi, hb, hk⟩; refine ⟨_, rfl, ?_⟩; have n0_ := Aside0.mk (KeepBut.trans (by repeat (first | (with_reducible first | exact HK.out | apply KeepBut.set_ | apply keep_drewN | apply keep_drew | apply keep_alloc) | exact HK.out)) hk (.inl rfl)); have n1_ := Aside0.mk (hb); have n2_ := Aside0.mk (hi); clear HK; clear HB; clear HI0; have HK := n0_; have HB := n1_; have HI0 := n2_; clear n0_ n1_ n2_; (try clear hb); (try clear hb2); (try clear hk); (try clear hi)) | ((with_reducible refine gate_callee (f := 38) rfl ?_); refine goesL_ (some 12) rfl rfl Tryd.func38 (by kernel_rfl) rfl #[.pointer (some ⟨g, 0, none⟩), .int .i64 8] rfl (by (try simp only [List.map_toArray, List.map_cons, List.map_nil]); first | done | rfl | (simp only [List.length_drop, List.length_take]; rfl)) ?_; (with_reducible refine (spec_l01Next.calls g s0_0 t211 t212 8 t213 t214 t215 w0 _ ?side1 ?side2 A4.out).mono ?_); (case side1 => repeat (first | (with_reducible first | exact HI0.out | apply IsS87.alloc | apply IsS87.drewN | apply IsS87.drew | apply IsS87.set_1 | apply IsS87.set_2) | exact HI0.out)); (case side2 => repeat (first | (with_reducible first | exact HB.out | apply below_alloc | apply pw_below_drewN | apply below_drew1 | refine below_set ?_ (IsS87.ge HI0.out)) | exact HB.out)); rintro e w38 ⟨rfl, hi, hb, hk⟩; refine ⟨_, rfl, ?_⟩; have n0_ := Aside0.mk (KeepBut.trans (by repeat (first | (with_reducible first | exact HK.out | apply KeepBut.set_ | apply keep_drewN | apply keep_drew | apply keep_alloc) | exact HK.out)) hk (.inl rfl)); have n1_ := Aside0.mk (hb); have n2_ := Aside0.mk (hi); clear HK; clear HB; clear HI0; have HK := n0_; have HB := n1_; have HI0 := n2_; clear n0_ n1_ n2_; (try clear hb); (try clear hb2); (try clear hk); (try clear hi)))
                    have n0_ := Aside0.mk (IsS87.drew HI0.out)
                    have n1_ := Aside0.mk (keep_drew HK.out)
                    have n2_ := Aside0.mk (below_drew1 HB.out)
                    clear HI0
                    clear HK
                    clear HB
                    have HI0 := n0_
                    have HK := n1_
                    have HB := n2_
                    clear n0_ n1_ n2_
                    refine start_ (n := 9) (S := fun w' => True) (ds := []) #[false, false, false, false, false, false, false, false, false] (by kernel_rfl) rfl rfl trivial (fun hHeld => ?_); refine with_tabW spec_l01Damage.tab9 spec_l01Damage.bits9 (fun HT_ HW_ => ?_)
                    generalize w38.drew = w39 at HI0 HK HB hHeld ⊢
                    refine pure_ (i := 0) (N := some 39) (v := ?_) (a' := ?_) #[true, false, false, false, false, false, false, false, false] rfl rfl (any_of HT_.out (by kernel_rfl)) (fun _ _ _ h => h) (Or.inl ⟨by rfl, ?_⟩) ?_ ?_
                    rotate_left
                    · intro w'
                      go_simp
                      with_reducible rfl
                    rotate_left
                    · simp only [Act.put, List.setIfInBounds_toArray, List.set_cons_zero, List.set_cons_succ, i64_w, i32_w]
                      rfl
                    refine pure_ (i := 1) (N := some 40) (v := ?_) (a' := ?_) #[true, true, false, false, false, false, false, false, false] rfl rfl (any_of HT_.out (by kernel_rfl)) (fun _ _ _ h => h) (Or.inl ⟨by rfl, ?_⟩) ?_ ?_
                    rotate_left
                    · intro w'
                      go_simp
                      with_reducible rfl
                    rotate_left
                    · simp only [Act.put, List.setIfInBounds_toArray, List.set_cons_zero, List.set_cons_succ, i64_w, i32_w]
                      rfl
                    refine pure_ (i := 2) (N := some 41) (v := ?_) (a' := ?_) #[true, true, true, false, false, false, false, false, false] rfl rfl (any_of HT_.out (by kernel_rfl)) (fun _ _ _ h => h) (Or.inl ⟨by rfl, ?_⟩) ?_ ?_
                    rotate_left
                    · intro w'
                      go_simp
                      with_reducible rfl
                    rotate_left
                    · simp only [Act.put, List.setIfInBounds_toArray, List.set_cons_zero, List.set_cons_succ, i64_w, i32_w]
                      rfl
                    refine pure_ (i := 3) (N := some 42) (v := ?_) (a' := ?_) #[true, true, true, true, false, false, false, false, false] rfl rfl (any_of HT_.out (by kernel_rfl)) (fun _ _ _ h => h) (Or.inl ⟨by rfl, ?_⟩) ?_ ?_
                    rotate_left
                    · intro w'
                      go_simp
                      with_reducible rfl
                    rotate_left
                    · simp only [Act.put, List.setIfInBounds_toArray, List.set_cons_zero, List.set_cons_succ, i64_w, i32_w]
                      rfl
                    refine pure_ (i := 4) (N := some 43) (v := ?_) (a' := ?_) #[true, true, true, true, true, false, false, false, false] rfl rfl (any_of HT_.out (by kernel_rfl)) (fun _ _ _ h => h) (Or.inl ⟨by rfl, ?_⟩) ?_ ?_
                    rotate_left
                    · intro w'
                      go_simp
                      with_reducible rfl
                    rotate_left
                    · simp only [Act.put, List.setIfInBounds_toArray, List.set_cons_zero, List.set_cons_succ, i64_w, i32_w]
                      rfl
                    refine pure_ (i := 5) (N := some 44) (v := ?_) (a' := ?_) #[true, true, true, true, true, true, false, false, false] rfl rfl (any_of HT_.out (by kernel_rfl)) (fun _ _ _ h => h) (Or.inl ⟨by rfl, ?_⟩) ?_ ?_
                    rotate_left
                    · intro w'
                      go_simp
                      with_reducible rfl
                    rotate_left
                    · simp only [Act.put, List.setIfInBounds_toArray, List.set_cons_zero, List.set_cons_succ, i64_w, i32_w]
                      rfl
                    refine pure_ (i := 6) (N := some 45) (v := ?_) (a' := ?_) #[true, true, true, true, true, true, true, false, false] rfl rfl (any_of HT_.out (by kernel_rfl)) (fun _ _ _ h => h) (Or.inl ⟨by rfl, ?_⟩) ?_ ?_
                    rotate_left
                    · intro w'
                      go_simp
                      with_reducible rfl
                    rotate_left
                    · simp only [Act.put, List.setIfInBounds_toArray, List.set_cons_zero, List.set_cons_succ, i64_w, i32_w]
                      rfl
                    refine pure_ (i := 7) (N := some 46) (v := ?_) (a' := ?_) #[true, true, true, true, true, true, true, true, false] rfl rfl (any_of HT_.out (by kernel_rfl)) (fun _ _ _ h => h) (Or.inl ⟨by rfl, ?_⟩) ?_ ?_
                    rotate_left
                    · intro w'
                      go_simp
                      with_reducible rfl
                    rotate_left
                    · simp only [Act.put, List.setIfInBounds_toArray, List.set_cons_zero, List.set_cons_succ, i64_w, i32_w]
                      rfl
                    refine pure_ (i := 8) (N := some 4) (v := ?_) (a' := ?_) #[true, true, true, true, true, true, true, true, true] rfl rfl (any_of HT_.out (by kernel_rfl)) (fun _ _ _ h => h) (Or.inl ⟨by rfl, ?_⟩) ?_ ?_
                    rotate_left
                    · intro w'
                      go_simp
                      with_reducible rfl
                    rotate_left
                    · simp only [Act.put, List.setIfInBounds_toArray, List.set_cons_zero, List.set_cons_succ, i64_w, i32_w]
                      rfl
                    refine done_ (done_of HT_.out (by kernel_rfl)) ?_
                    try go_wp2
                    go_ret
                    exact ⟨by first | rfl | (simp [errW_none, errW_some] <;> rfl) | (simp only [← hji33]; first | rfl | (simp [errW_none, errW_some] <;> rfl)) | (simp [*, errW_none, errW_some] <;> rfl), by repeat (first | (with_reducible first | exact HI0.out | apply IsS87.alloc | apply IsS87.drewN | apply IsS87.drew | apply IsS87.set_1 | apply IsS87.set_2) | exact HI0.out), by repeat (first | (with_reducible first | exact HB.out | apply below_alloc | apply pw_below_drewN | apply below_drew1 | refine below_set ?_ (IsS87.ge HI0.out)) | exact HB.out), by repeat (first | (with_reducible first | exact HK.out | apply KeepBut.set_ | apply keep_drewN | apply keep_drew | apply keep_alloc) | exact HK.out)⟩
                  · rw [if_neg c36] at H
                    exact absurd H (by simp)
                · rw [if_neg c35] at H
                  exact absurd H (by simp)
              · rw [if_neg c34] at H
                exact absurd H (by simp)
            · rw [if_neg c32] at H
              exact absurd H (by simp)
          · rw [if_neg c31] at H
            exact absurd H (by simp)
        · rw [if_neg c30] at H
          have c30b0 : decide (t210 < (a1.size : Int)) = false := decide_eq_false c30
          clear c30
          simp only [Option.some.injEq, Prod.mk.injEq] at H
          obtain ⟨rfl, rfl, rfl⟩ := H
          go_enter Tryd.func54, Tryd.ntmps54
          go_wp2_with (first | ((with_reducible refine gate_callee (f := 38) rfl ?_); refine goesL_ (some 10) rfl rfl Tryd.func38 (by kernel_rfl) rfl #[.pointer (some ⟨g, 0, none⟩), .int .i64 (wrap64 ((a1.size : Int) + 1))] rfl (by (try simp only [List.map_toArray, List.map_cons, List.map_nil]); first | done | rfl | (simp only [List.length_drop, List.length_take]; rfl)) ?_; (with_reducible refine (spec_l01Next.calls g s0_0 s0_1 s0_2 (wrap64 ((a1.size : Int) + 1)) t210 t211 t212 w0 _ ?side1 ?side2 A3.out).mono ?_); (case side1 => repeat (first | (with_reducible first | exact HI0.out | apply IsS87.alloc | apply IsS87.drewN | apply IsS87.drew | apply IsS87.set_1 | apply IsS87.set_2) | exact HI0.out)); (case side2 => repeat (first | (with_reducible first | exact HB.out | apply below_alloc | apply pw_below_drewN | apply below_drew1 | refine below_set ?_ (IsS87.ge HI0.out)) | exact HB.out)); rintro e w40 ⟨rfl, hi, hb, hk⟩; refine ⟨_, rfl, ?_⟩; have n0_ := Aside0.mk (KeepBut.trans (by repeat (first | (with_reducible first | exact HK.out | apply KeepBut.set_ | apply keep_drewN | apply keep_drew | apply keep_alloc) | exact HK.out)) hk (.inl rfl)); have n1_ := Aside0.mk (hb); have n2_ := Aside0.mk (hi); clear HK; clear HB; clear HI0; have HK := n0_; have HB := n1_; have HI0 := n2_; clear n0_ n1_ n2_; (try clear hb); (try clear hb2); (try clear hk); (try clear hi)) | ((with_reducible refine gate_callee (f := 38) rfl ?_); refine goesL_ (some 12) rfl rfl Tryd.func38 (by kernel_rfl) rfl #[.pointer (some ⟨g, 0, none⟩), .int .i64 8] rfl (by (try simp only [List.map_toArray, List.map_cons, List.map_nil]); first | done | rfl | (simp only [List.length_drop, List.length_take]; rfl)) ?_; (with_reducible refine (spec_l01Next.calls g s0_0 t211 t212 8 t213 t214 t215 w0 _ ?side1 ?side2 A4.out).mono ?_); (case side1 => repeat (first | (with_reducible first | exact HI0.out | apply IsS87.alloc | apply IsS87.drewN | apply IsS87.drew | apply IsS87.set_1 | apply IsS87.set_2) | exact HI0.out)); (case side2 => repeat (first | (with_reducible first | exact HB.out | apply below_alloc | apply pw_below_drewN | apply below_drew1 | refine below_set ?_ (IsS87.ge HI0.out)) | exact HB.out)); rintro e w41 ⟨rfl, hi, hb, hk⟩; refine ⟨_, rfl, ?_⟩; have n0_ := Aside0.mk (KeepBut.trans (by repeat (first | (with_reducible first | exact HK.out | apply KeepBut.set_ | apply keep_drewN | apply keep_drew | apply keep_alloc) | exact HK.out)) hk (.inl rfl)); have n1_ := Aside0.mk (hb); have n2_ := Aside0.mk (hi); clear HK; clear HB; clear HI0; have HK := n0_; have HB := n1_; have HI0 := n2_; clear n0_ n1_ n2_; (try clear hb); (try clear hb2); (try clear hk); (try clear hi)))
          go_ret
          exact ⟨by first | rfl | (simp [errW_none, errW_some] <;> rfl) | (simp [*, errW_none, errW_some] <;> rfl), by repeat (first | (with_reducible first | exact HI0.out | apply IsS87.alloc | apply IsS87.drewN | apply IsS87.drew | apply IsS87.set_1 | apply IsS87.set_2) | exact HI0.out), by repeat (first | (with_reducible first | exact HB.out | apply below_alloc | apply pw_below_drewN | apply below_drew1 | refine below_set ?_ (IsS87.ge HI0.out)) | exact HB.out), by repeat (first | (with_reducible first | exact HK.out | apply KeepBut.set_ | apply keep_drewN | apply keep_drew | apply keep_alloc) | exact HK.out)⟩
      · rw [if_neg c29] at H
        have c29b0 : (t213 == 2) = false := beq_eq_false_iff_ne.mpr c29
        have c29b1 : (t213 != 2) = true := bne_iff_ne.mpr c29
        simp only [Option.some.injEq, Prod.mk.injEq] at H
        obtain ⟨rfl, rfl, rfl⟩ := H
        go_enter Tryd.func54, Tryd.ntmps54
        go_wp2_with (first | ((with_reducible refine gate_callee (f := 38) rfl ?_); refine goesL_ (some 10) rfl rfl Tryd.func38 (by kernel_rfl) rfl #[.pointer (some ⟨g, 0, none⟩), .int .i64 (wrap64 ((a1.size : Int) + 1))] rfl (by (try simp only [List.map_toArray, List.map_cons, List.map_nil]); first | done | rfl | (simp only [List.length_drop, List.length_take]; rfl)) ?_; (with_reducible refine (spec_l01Next.calls g s0_0 s0_1 s0_2 (wrap64 ((a1.size : Int) + 1)) t210 t211 t212 w0 _ ?side1 ?side2 A3.out).mono ?_); (case side1 => repeat (first | (with_reducible first | exact HI0.out | apply IsS87.alloc | apply IsS87.drewN | apply IsS87.drew | apply IsS87.set_1 | apply IsS87.set_2) | exact HI0.out)); (case side2 => repeat (first | (with_reducible first | exact HB.out | apply below_alloc | apply pw_below_drewN | apply below_drew1 | refine below_set ?_ (IsS87.ge HI0.out)) | exact HB.out)); rintro e w42 ⟨rfl, hi, hb, hk⟩; refine ⟨_, rfl, ?_⟩; have n0_ := Aside0.mk (KeepBut.trans (by repeat (first | (with_reducible first | exact HK.out | apply KeepBut.set_ | apply keep_drewN | apply keep_drew | apply keep_alloc) | exact HK.out)) hk (.inl rfl)); have n1_ := Aside0.mk (hb); have n2_ := Aside0.mk (hi); clear HK; clear HB; clear HI0; have HK := n0_; have HB := n1_; have HI0 := n2_; clear n0_ n1_ n2_; (try clear hb); (try clear hb2); (try clear hk); (try clear hi)) | ((with_reducible refine gate_callee (f := 38) rfl ?_); refine goesL_ (some 12) rfl rfl Tryd.func38 (by kernel_rfl) rfl #[.pointer (some ⟨g, 0, none⟩), .int .i64 8] rfl (by (try simp only [List.map_toArray, List.map_cons, List.map_nil]); first | done | rfl | (simp only [List.length_drop, List.length_take]; rfl)) ?_; (with_reducible refine (spec_l01Next.calls g s0_0 t211 t212 8 t213 t214 t215 w0 _ ?side1 ?side2 A4.out).mono ?_); (case side1 => repeat (first | (with_reducible first | exact HI0.out | apply IsS87.alloc | apply IsS87.drewN | apply IsS87.drew | apply IsS87.set_1 | apply IsS87.set_2) | exact HI0.out)); (case side2 => repeat (first | (with_reducible first | exact HB.out | apply below_alloc | apply pw_below_drewN | apply below_drew1 | refine below_set ?_ (IsS87.ge HI0.out)) | exact HB.out)); rintro e w43 ⟨rfl, hi, hb, hk⟩; refine ⟨_, rfl, ?_⟩; have n0_ := Aside0.mk (KeepBut.trans (by repeat (first | (with_reducible first | exact HK.out | apply KeepBut.set_ | apply keep_drewN | apply keep_drew | apply keep_alloc) | exact HK.out)) hk (.inl rfl)); have n1_ := Aside0.mk (hb); have n2_ := Aside0.mk (hi); clear HK; clear HB; clear HI0; have HK := n0_; have HB := n1_; have HI0 := n2_; clear n0_ n1_ n2_; (try clear hb); (try clear hb2); (try clear hk); (try clear hi)))
        go_ret
        exact ⟨by first | rfl | (simp [errW_none, errW_some] <;> rfl) | (simp [*, errW_none, errW_some] <;> rfl), by repeat (first | (with_reducible first | exact HI0.out | apply IsS87.alloc | apply IsS87.drewN | apply IsS87.drew | apply IsS87.set_1 | apply IsS87.set_2) | exact HI0.out), by repeat (first | (with_reducible first | exact HB.out | apply below_alloc | apply pw_below_drewN | apply below_drew1 | refine below_set ?_ (IsS87.ge HI0.out)) | exact HB.out), by repeat (first | (with_reducible first | exact HK.out | apply KeepBut.set_ | apply keep_drewN | apply keep_drew | apply keep_alloc) | exact HK.out)⟩

/-! ### spec_DrawReadAngle: function 30 -/
def spec_DrawReadAngle.f (k : Nat) (l0 : List Int) : Option (ByteArray) := (spec_l01From.f k l0).bind fun bt223 => ((spec_l01Next.f bt223.1 bt223.2.1 bt223.2.2 1944000).bind fun bt227 => ((spec_l03Text.f k (wrap64 (bt227.1 - 648000))).bind fun t230 => ((spec_l01Next.f bt223.1 bt227.2.1 bt227.2.2 3).bind fun bt231 => (if bt231.1 = 0 then ((spec_l01Damage.f bt223.1 bt231.2.1 bt231.2.2 t230).bind fun bt234 => (some bt234.1)) else (some t230)))))
theorem spec_DrawReadAngle.mono : ∀ a0 k, LeO (spec_DrawReadAngle.f k a0) (spec_DrawReadAngle.f (k + 1) a0) := by
  intro a0 k
  unfold spec_DrawReadAngle.f
  repeat' first
      | (with_reducible exact spec_l01From.mono _ _)
      | (with_reducible exact spec_l03Text.mono _ _)
      | (with_reducible exact LeO.refl _)
      | (with_reducible exact LeO.none _)
      | (with_reducible refine LeO.ite ?_ ?_)
      | (with_reducible refine LeO.bind ?_ (fun _ => ?_))
      | exact spec_l01From.mono _ _
      | exact spec_l03Text.mono _ _
      | exact LeO.none _
      | refine LeO.ite ?_ ?_
      | refine LeO.bind ?_ (fun _ => ?_)
set_option maxHeartbeats 8000000 in
set_option maxRecDepth 100000 in
theorem spec_DrawReadAngle.calls (k : Nat) (A0 : Option Addr) (c0 : Nat) (l0 : List Int) (r : ByteArray) (w : World) (hr0 : Kd.C (Kd.int .u8) w A0 l0.length l0) (hc0 : l0.length ≤ c0) (h : spec_DrawReadAngle.f k l0 = some r) :
    Calls Tryd.prog 30 #[.slice A0 l0.length c0] w fun e w' => e = .returned (.string r) ∧ Below w.heap.size w w' := by
  have HR0 := Aside0.mk hr0
  have HC0 := Aside0.mk hc0
  clear hr0 hc0
  have HB := Aside0.mk (Below.refl w.heap.size w)
  have H : ((spec_l01From.f k l0).bind fun bt223 => ((spec_l01Next.f bt223.1 bt223.2.1 bt223.2.2 1944000).bind fun bt227 => ((spec_l03Text.f k (wrap64 (bt227.1 - 648000))).bind fun t230 => ((spec_l01Next.f bt223.1 bt227.2.1 bt227.2.2 3).bind fun bt231 => (if bt231.1 = 0 then ((spec_l01Damage.f bt223.1 bt231.2.1 bt231.2.2 t230).bind fun bt234 => (some bt234.1)) else (some t230)))))) = some r := h
  clear h
  replace H := Option.bind_eq_some_iff.mp H
  obtain ⟨⟨t223, t224, t225⟩, A20, H⟩ := H
  replace H : ((spec_l01Next.f t223 t224 t225 1944000).bind fun bt227 => ((spec_l03Text.f k (wrap64 (bt227.1 - 648000))).bind fun t230 => ((spec_l01Next.f t223 bt227.2.1 bt227.2.2 3).bind fun bt231 => (if bt231.1 = 0 then ((spec_l01Damage.f t223 bt231.2.1 bt231.2.2 t230).bind fun bt234 => (some bt234.1)) else (some t230))))) = some r := H
  have A2 := Aside0.mk A20
  clear A20
  replace H := Option.bind_eq_some_iff.mp H
  obtain ⟨⟨t227, t228, t229⟩, A30, H⟩ := H
  replace H : ((spec_l03Text.f k (wrap64 (t227 - 648000))).bind fun t230 => ((spec_l01Next.f t223 t228 t229 3).bind fun bt231 => (if bt231.1 = 0 then ((spec_l01Damage.f t223 bt231.2.1 bt231.2.2 t230).bind fun bt234 => (some bt234.1)) else (some t230)))) = some r := H
  have A3 := Aside0.mk A30
  clear A30
  replace H := Option.bind_eq_some_iff.mp H
  obtain ⟨t230, A40, H⟩ := H
  replace H : ((spec_l01Next.f t223 t228 t229 3).bind fun bt231 => (if bt231.1 = 0 then ((spec_l01Damage.f t223 bt231.2.1 bt231.2.2 t230).bind fun bt234 => (some bt234.1)) else (some t230))) = some r := H
  have A4 := Aside0.mk A40
  clear A40
  replace H := Option.bind_eq_some_iff.mp H
  obtain ⟨⟨t231, t232, t233⟩, A50, H⟩ := H
  replace H : (if t231 = 0 then ((spec_l01Damage.f t223 t232 t233 t230).bind fun bt234 => (some bt234.1)) else (some t230)) = some r := H
  have A5 := Aside0.mk A50
  clear A50
  by_cases c6 : t231 = 0
  · rw [if_pos c6] at H
    have c6b0 : (t231 == 0) = true := beq_iff_eq.mpr c6
    have c6b1 : (t231 != 0) = false := bne_eq_false_iff_eq.mpr c6
    clear c6
    replace H := Option.bind_eq_some_iff.mp H
    obtain ⟨⟨t234, t235, t236⟩, A70, H⟩ := H
    replace H : (some t234) = some r := H
    have A7 := Aside0.mk A70
    clear A70
    obtain rfl := Option.some.inj H
    go_enter Tryd.func30, Tryd.ntmps30
    go_wp2_with (first | ((with_reducible refine gate_callee (f := 36) rfl ?_); refine goesL_ (some 6) rfl rfl Tryd.func36 (by kernel_rfl) rfl #[.slice A0 l0.length c0] rfl (by (try simp only [List.map_toArray, List.map_cons, List.map_nil]); first | done | rfl | (simp only [List.length_drop, List.length_take]; rfl)) ?_; (with_reducible refine (spec_l01From.calls k _ _ l0 t223 t224 t225 w _ ?side1 ?side2 ?side3 A2.out).mono ?_); (case side1 => repeat (first | (with_reducible first | exact HB.out | apply below_alloc | apply pw_below_drewN | apply below_drew1) | exact HB.out)); (case side2 => exact HR0.out); (case side3 => exact HC0.out); rintro e w8 ⟨g226, rfl, hi, hb, hb2⟩; refine ⟨_, rfl, ?_⟩; have n0_ := Aside0.mk (hb); have n1_ := Aside0.mk (hi); clear HB; have HB := n0_; have HI226 := n1_; clear n0_ n1_; (try clear hb); (try clear hb2); (try clear hk); (try clear hi)) | ((with_reducible refine gate_callee (f := 38) rfl ?_); refine goesL_ (some 8) rfl rfl Tryd.func38 (by kernel_rfl) rfl #[.pointer (some ⟨g226, 0, none⟩), .int .i64 1944000] rfl (by (try simp only [List.map_toArray, List.map_cons, List.map_nil]); first | done | rfl | (simp only [List.length_drop, List.length_take]; rfl)) ?_; (with_reducible refine (spec_l01Next.calls g226 t223 t224 t225 1944000 t227 t228 t229 w _ ?side1 ?side2 A3.out).mono ?_); (case side1 => repeat (first | (with_reducible first | exact HI226.out | apply IsS87.alloc | apply IsS87.drewN | apply IsS87.drew | apply IsS87.set_1 | apply IsS87.set_2) | exact HI226.out)); (case side2 => repeat (first | (with_reducible first | exact HB.out | apply below_alloc | apply pw_below_drewN | apply below_drew1 | refine below_set ?_ (IsS87.ge HI226.out)) | exact HB.out)); rintro e w9 ⟨rfl, hi, hb, hk⟩; refine ⟨_, rfl, ?_⟩; have n0_ := Aside0.mk (hb); have n1_ := Aside0.mk (hi); clear HB; clear HI226; have HB := n0_; have HI226 := n1_; clear n0_ n1_; (try clear hb); (try clear hb2); (try clear hk); (try clear hi)) | ((with_reducible refine gate_callee (f := 70) rfl ?_); refine goesL_ (some 10) rfl rfl Tryd.func70 (by kernel_rfl) rfl #[.int .i64 (wrap64 (t227 - 648000))] rfl (by (try simp only [List.map_toArray, List.map_cons, List.map_nil]); first | done | rfl | (simp only [List.length_drop, List.length_take]; rfl)) ?_; (with_reducible refine (spec_l03Text.calls k (wrap64 (t227 - 648000)) t230 _ A4.out).mono ?_); rintro e w10 ⟨rfl, hb⟩; refine ⟨_, rfl, ?_⟩; have n0_ := Aside0.mk (IsS87.below (by repeat (first | (with_reducible first | exact HI226.out | apply IsS87.alloc | apply IsS87.drewN | apply IsS87.drew | apply IsS87.set_1 | apply IsS87.set_2) | exact HI226.out)) hb); have n1_ := Aside0.mk (below_step (by repeat (first | (with_reducible first | exact HB.out | apply below_alloc | apply pw_below_drewN | apply below_drew1 | refine below_set ?_ (IsS87.ge HI226.out)) | exact HB.out)) hb); clear HI226; clear HB; have HI226 := n0_; have HB := n1_; clear n0_ n1_; (try clear hb); (try clear hb2); (try clear hk); (try clear hi)) | ((with_reducible refine gate_callee (f := 38) rfl ?_); refine goesL_ (some 12) rfl rfl Tryd.func38 (by kernel_rfl) rfl #[.pointer (some ⟨g226, 0, none⟩), .int .i64 3] rfl (by (try simp only [List.map_toArray, List.map_cons, List.map_nil]); first | done | rfl | (simp only [List.length_drop, List.length_take]; rfl)) ?_; (with_reducible refine (spec_l01Next.calls g226 t223 t228 t229 3 t231 t232 t233 w _ ?side1 ?side2 A5.out).mono ?_); (case side1 => repeat (first | (with_reducible first | exact HI226.out | apply IsS87.alloc | apply IsS87.drewN | apply IsS87.drew | apply IsS87.set_1 | apply IsS87.set_2) | exact HI226.out)); (case side2 => repeat (first | (with_reducible first | exact HB.out | apply below_alloc | apply pw_below_drewN | apply below_drew1 | refine below_set ?_ (IsS87.ge HI226.out)) | exact HB.out)); rintro e w11 ⟨rfl, hi, hb, hk⟩; refine ⟨_, rfl, ?_⟩; have n0_ := Aside0.mk (hb); have n1_ := Aside0.mk (hi); clear HB; clear HI226; have HB := n0_; have HI226 := n1_; clear n0_ n1_; (try clear hb); (try clear hb2); (try clear hk); (try clear hi)) | ((with_reducible refine gate_callee (f := 54) rfl ?_); refine goesL_ (some 16) rfl rfl Tryd.func54 (by kernel_rfl) rfl #[.pointer (some ⟨g226, 0, none⟩), .string t230] rfl (by (try simp only [List.map_toArray, List.map_cons, List.map_nil]); first | done | rfl | (simp only [List.length_drop, List.length_take]; rfl)) ?_; (with_reducible refine (spec_l01Damage.calls g226 t223 t232 t233 t230 t234 t235 t236 w _ ?side1 ?side2 A7.out).mono ?_); (case side1 => repeat (first | (with_reducible first | exact HI226.out | apply IsS87.alloc | apply IsS87.drewN | apply IsS87.drew | apply IsS87.set_1 | apply IsS87.set_2) | exact HI226.out)); (case side2 => repeat (first | (with_reducible first | exact HB.out | apply below_alloc | apply pw_below_drewN | apply below_drew1 | refine below_set ?_ (IsS87.ge HI226.out)) | exact HB.out)); rintro e w12 ⟨rfl, hi, hb, hk⟩; refine ⟨_, rfl, ?_⟩; have n0_ := Aside0.mk (hb); have n1_ := Aside0.mk (hi); clear HB; clear HI226; have HB := n0_; have HI226 := n1_; clear n0_ n1_; (try clear hb); (try clear hb2); (try clear hk); (try clear hi)))
    go_ret
    exact ⟨by first | rfl | (simp [errW_none, errW_some] <;> rfl) | (simp [*, errW_none, errW_some] <;> rfl), by repeat (first | (with_reducible first | exact HB.out | apply below_alloc | apply pw_below_drewN | apply below_drew1 | refine below_set ?_ (IsS87.ge HI226.out)) | exact HB.out)⟩
  · rw [if_neg c6] at H
    have c6b0 : (t231 == 0) = false := beq_eq_false_iff_ne.mpr c6
    have c6b1 : (t231 != 0) = true := bne_iff_ne.mpr c6
    obtain rfl := Option.some.inj H
    go_enter Tryd.func30, Tryd.ntmps30
    go_wp2_with (first | ((with_reducible refine gate_callee (f := 36) rfl ?_); refine goesL_ (some 6) rfl rfl Tryd.func36 (by kernel_rfl) rfl #[.slice A0 l0.length c0] rfl (by (try simp only [List.map_toArray, List.map_cons, List.map_nil]); first | done | rfl | (simp only [List.length_drop, List.length_take]; rfl)) ?_; (with_reducible refine (spec_l01From.calls k _ _ l0 t223 t224 t225 w _ ?side1 ?side2 ?side3 A2.out).mono ?_); (case side1 => repeat (first | (with_reducible first | exact HB.out | apply below_alloc | apply pw_below_drewN | apply below_drew1) | exact HB.out)); (case side2 => exact HR0.out); (case side3 => exact HC0.out); rintro e w13 ⟨g226, rfl, hi, hb, hb2⟩; refine ⟨_, rfl, ?_⟩; have n0_ := Aside0.mk (hb); have n1_ := Aside0.mk (hi); clear HB; have HB := n0_; have HI226 := n1_; clear n0_ n1_; (try clear hb); (try clear hb2); (try clear hk); (try clear hi)) | ((with_reducible refine gate_callee (f := 38) rfl ?_); refine goesL_ (some 8) rfl rfl Tryd.func38 (by kernel_rfl) rfl #[.pointer (some ⟨g226, 0, none⟩), .int .i64 1944000] rfl (by (try simp only [List.map_toArray, List.map_cons, List.map_nil]); first | done | rfl | (simp only [List.length_drop, List.length_take]; rfl)) ?_; (with_reducible refine (spec_l01Next.calls g226 t223 t224 t225 1944000 t227 t228 t229 w _ ?side1 ?side2 A3.out).mono ?_); (case side1 => repeat (first | (with_reducible first | exact HI226.out | apply IsS87.alloc | apply IsS87.drewN | apply IsS87.drew | apply IsS87.set_1 | apply IsS87.set_2) | exact HI226.out)); (case side2 => repeat (first | (with_reducible first | exact HB.out | apply below_alloc | apply pw_below_drewN | apply below_drew1 | refine below_set ?_ (IsS87.ge HI226.out)) | exact HB.out)); rintro e w14 ⟨rfl, hi, hb, hk⟩; refine ⟨_, rfl, ?_⟩; have n0_ := Aside0.mk (hb); have n1_ := Aside0.mk (hi); clear HB; clear HI226; have HB := n0_; have HI226 := n1_; clear n0_ n1_; (try clear hb); (try clear hb2); (try clear hk); (try clear hi)) | ((with_reducible refine gate_callee (f := 70) rfl ?_); refine goesL_ (some 10) rfl rfl Tryd.func70 (by kernel_rfl) rfl #[.int .i64 (wrap64 (t227 - 648000))] rfl (by (try simp only [List.map_toArray, List.map_cons, List.map_nil]); first | done | rfl | (simp only [List.length_drop, List.length_take]; rfl)) ?_; (with_reducible refine (spec_l03Text.calls k (wrap64 (t227 - 648000)) t230 _ A4.out).mono ?_); rintro e w15 ⟨rfl, hb⟩; refine ⟨_, rfl, ?_⟩; have n0_ := Aside0.mk (IsS87.below (by repeat (first | (with_reducible first | exact HI226.out | apply IsS87.alloc | apply IsS87.drewN | apply IsS87.drew | apply IsS87.set_1 | apply IsS87.set_2) | exact HI226.out)) hb); have n1_ := Aside0.mk (below_step (by repeat (first | (with_reducible first | exact HB.out | apply below_alloc | apply pw_below_drewN | apply below_drew1 | refine below_set ?_ (IsS87.ge HI226.out)) | exact HB.out)) hb); clear HI226; clear HB; have HI226 := n0_; have HB := n1_; clear n0_ n1_; (try clear hb); (try clear hb2); (try clear hk); (try clear hi)) | ((with_reducible refine gate_callee (f := 38) rfl ?_); refine goesL_ (some 12) rfl rfl Tryd.func38 (by kernel_rfl) rfl #[.pointer (some ⟨g226, 0, none⟩), .int .i64 3] rfl (by (try simp only [List.map_toArray, List.map_cons, List.map_nil]); first | done | rfl | (simp only [List.length_drop, List.length_take]; rfl)) ?_; (with_reducible refine (spec_l01Next.calls g226 t223 t228 t229 3 t231 t232 t233 w _ ?side1 ?side2 A5.out).mono ?_); (case side1 => repeat (first | (with_reducible first | exact HI226.out | apply IsS87.alloc | apply IsS87.drewN | apply IsS87.drew | apply IsS87.set_1 | apply IsS87.set_2) | exact HI226.out)); (case side2 => repeat (first | (with_reducible first | exact HB.out | apply below_alloc | apply pw_below_drewN | apply below_drew1 | refine below_set ?_ (IsS87.ge HI226.out)) | exact HB.out)); rintro e w16 ⟨rfl, hi, hb, hk⟩; refine ⟨_, rfl, ?_⟩; have n0_ := Aside0.mk (hb); have n1_ := Aside0.mk (hi); clear HB; clear HI226; have HB := n0_; have HI226 := n1_; clear n0_ n1_; (try clear hb); (try clear hb2); (try clear hk); (try clear hi)))
    go_ret
    exact ⟨by first | rfl | (simp [errW_none, errW_some] <;> rfl) | (simp [*, errW_none, errW_some] <;> rfl), by repeat (first | (with_reducible first | exact HB.out | apply below_alloc | apply pw_below_drewN | apply below_drew1 | refine below_set ?_ (IsS87.ge HI226.out)) | exact HB.out)⟩

end Go.Proofs.YtndjeclnadpifaaDoor.PFnAngleTexts
