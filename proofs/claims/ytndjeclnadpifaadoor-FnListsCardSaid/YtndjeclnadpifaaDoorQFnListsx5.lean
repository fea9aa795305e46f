-- The machine's side of the law FnLists: functions and their walks, made by q.py out of the kit's own print.
import Derived.Test.YtndjeclnadpifaaDoorQFnListsx0
import Derived.Test.YtndjeclnadpifaaDoorQFnListsx4
namespace Go.Proofs.YtndjeclnadpifaaDoor.PFnLists
open Go.RowKit Go.Proofs.YtndjeclnadpifaaDoorW.PrintWords Go.Proofs.YtndjeclnadpifaaDoorW.PrintLast Go.Proofs.YtndjeclnadpifaaDoorW.PrintMore
attribute [local go_sem] max2_int min2_int max_two min_two max_three min_three max_four min_four   -- for this text's walks alone
set_option linter.unusedVariables false
set_option linter.unusedSimpArgs false

/-! ### strings_Split: function 55 -/
-- TAB
def strings_Split.f (k : Nat) (s sep : ByteArray) : Option (List ByteArray) := if s.size < 4294967281 ∧ 1 ≤ sep.size then some (Lib.splitB sep 0 (Lib.countB s sep) s) else none
theorem strings_Split.mono : ∀ a0 a1 k, LeO (strings_Split.f k a0 a1) (strings_Split.f (k + 1) a0 a1) := fun _ _ _ => LeO.refl _
theorem strings_Split.calls (k : Nat) (a0 a1 : ByteArray) (r : List ByteArray) (w : World) (h : strings_Split.f k a0 a1 = some r) (hT : Aside0 (TabAt w)) :
    Calls Tryd.prog 55 #[.string a0, .string a1] w fun e w' => ∃ v0_ : Value, e = .returned (v0_) ∧ Kd.R Kd.string 9 w' w.heap.size (fun _ => True) v0_ r ∧ Below w.heap.size w w' := by
  unfold strings_Split.f at h
  by_cases c : a0.size < 4294967281 ∧ 1 ≤ a1.size
  · rw [if_pos c] at h
    obtain rfl := Option.some.inj h
    obtain ⟨m, hm⟩ := hT.out.most
    refine (Tryd.strings_Split a0 a1 m w c.1 hm c.2).mono ?_
    rintro e w' ⟨rfl, rfl⟩
    refine ⟨_, rfl, ?_, below_alloc (Below.refl _ _) _⟩
    have hl := Lib.splitB_all a1 c.2 0 _ a0 rfl
    have hn := Lib.countB_le a1 c.2 _ a0 (Nat.le_refl _)
    rw [← hl]
    have hmx : (Lib.splitB a1 0 (Lib.countB a0 a1) a0).length ≤ maxLen := by rw [hl]; unfold maxLen; omega
    clear hm hl hn
    generalize Lib.splitB a1 0 (Lib.countB a0 a1) a0 = xs at hmx ⊢
    refine Kd.R_of_own (enc := Value.string) (h1 := fun _ => rfl) ?_ (fun _ _ => trivial)
    refine ⟨by simp [encs], .inr ⟨w.heap.size, xs.length, _, rfl, Nat.le_refl _, blk_new _ _, Nat.le_refl _, hmx, by simp, by simp only [encs, Nat.mul_one]; exact List.take_of_length_le (by simp)⟩⟩
  · rw [if_neg c] at h
    exact absurd h (by simp)

end Go.Proofs.YtndjeclnadpifaaDoor.PFnLists
