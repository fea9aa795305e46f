-- The machine's side of the law FnExactReadList: functions and their walks, made by q.py out of the kit's own print.
import Derived.Test.YtjheehbejehlaaaDoorQFnExactReadListx0
import Derived.Test.YtjheehbejehlaaaDoorQFnExactReadListx2
namespace Go.Proofs.YtjheehbejehlaaaDoor.PFnExactReadList
open Go.RowKit Go.Proofs.YtjheehbejehlaaaDoorW.PrintWords Go.Proofs.YtjheehbejehlaaaDoorW.PrintLast Go.Proofs.YtjheehbejehlaaaDoorW.PrintMore
attribute [local go_sem] max2_int min2_int max_two min_two max_three min_three max_four min_four   -- for this text's walks alone
set_option linter.unusedVariables false
set_option linter.unusedSimpArgs false

/-! ### impl_decimal: function 31 -/
-- TAB: these functions' contracts want the table internal/strconv.uint64pow10 and three of the library's variables (q.py carries the fact hT through their callers).
structure TabAt (w : World) : Prop where
  tab : Lib.TabBelow Tryd.prog w.heap.size w "internal/strconv.uint64pow10" .u64 Lib.pow10Tab
  most : ∃ m, w.cell? ⟨0, 0, none⟩ = some (.int .i64 m)
  syn : ∃ t p, w.cell? ⟨2, 0, none⟩ = some (.iface t p)
  ran : ∃ t p, w.cell? ⟨3, 0, none⟩ = some (.iface t p)
theorem tabAt_on {w W : World} (h : Aside0 (TabAt w)) (hb : Below w.heap.size w W) : Aside0 (TabAt W) :=
  ⟨⟨fun w' h' => h.out.tab w' (below_step hb h'), h.out.most.elim fun m e => ⟨m, pw_cell_below hb e⟩, h.out.syn.elim fun t e => e.elim fun p e => ⟨t, p, pw_cell_below hb e⟩, h.out.ran.elim fun t e => e.elim fun p e => ⟨t, p, pw_cell_below hb e⟩⟩⟩
def impl_decimal.f (k : Nat) (a0 : Int) : Option (ByteArray) := if -9223372036854775808 ≤ a0 then (if a0 ≤ 9223372036854775807 then (some ⟨(Lib.itoa a0).toArray⟩) else (none)) else (none)
theorem impl_decimal.mono : ∀ a0 k, LeO (impl_decimal.f k a0) (impl_decimal.f (k + 1) a0) := fun _ _ => LeO.refl _
set_option maxHeartbeats 8000000 in
set_option maxRecDepth 100000 in
theorem impl_decimal.calls (k : Nat) (a0 : Int) (r : ByteArray) (w : World) (h : impl_decimal.f k a0 = some r) (hT : Aside0 (TabAt w)) :
    Calls Tryd.prog 31 #[.int .i64 a0] w fun e w' => e = .returned (.string r) ∧ Below w.heap.size w w' := by
  unfold impl_decimal.f at h
  by_cases h0 : -9223372036854775808 ≤ a0
  · by_cases h1 : a0 ≤ 9223372036854775807
    · rw [if_pos h0, if_pos h1] at h
      obtain rfl := Option.some.inj h
      go_enter Tryd.func31, Tryd.ntmps31
      go_wp2_with (go_at_call 52; refine (Tryd.strconv_FormatInt_10 a0 h0 h1 _ (Lib.TabBelow.here (tabAt_on hT (by repeat (first | exact Below.refl _ _ | apply pw_below_drewN | apply below_drew1))).out.tab)).mono ?_; rintro e w' ⟨rfl, nk, os, rfl⟩)
      go_ret
      exact ⟨rfl, by repeat (first | exact Lib.below_grow _ _ (Nat.le_refl _) _ _ | apply pw_below_drewN | apply below_drew1)⟩
    · rw [if_pos h0, if_neg h1] at h
      exact absurd h (by simp)
  · rw [if_neg h0] at h
    exact absurd h (by simp)

end Go.Proofs.YtjheehbejehlaaaDoor.PFnExactReadList
