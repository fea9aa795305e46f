/- Proved: the given statement FnExactDateTextSaid: for every input the law FnExactDateText returns true. Conditions: none beyond the statement's own. -/
import Derived.Test.YtjheehbejehlaaaDoorRows
import Derived.Test.YtjheehbejehlaaaDoorQFnExactDateTextx3
import Derived.Test.YtjheehbejehlaaaDoorCards
import Derived.Test.YtjheehbejehlaaaDoorTie
import Derived.LaidMore
import Derived.LaidLaws
import Derived.Lib.LaidTab
import Derived.Stop.LaidErr
import Derived.Stop.Joined
import Derived.MakeChecks
import Derived.SevenTiedAt
import Derived.Test.YtjheehbejehlaaaDoorPureFnExactDateText
import Derived.WalkKit
import Derived.ProofKit
import Derived.OpenShut
import Derived.ShutString
import Derived.ChangeOld
import Derived.Below
import Derived.SizedLaws
namespace Go.Proofs.YtjheehbejehlaaaDoor.fnExactDateText
open Go.ChangeShapes Go.WideShapes Go.ChangeAt Go.RowKit
open Go.ChangeMaps (open_string shut_string)
set_option linter.unusedVariables false
/-- A type whose every cell is a signed 64-bit integer: such an integer, or a struct of such types. -/
def allI64 (P : Program) : Nat → TypeId → Bool
  | 0, _ => false
  | n + 1, t => match P.underlying t with
    | some (.int .i64) => true
    | some (.struct fs) => fs.toList.all (fun f => allI64 P n f.type) && (List.range (P.cellsOf t)).all (fun j => fs.toList.any (fun f => decide (f.offset ≤ j) && decide (j < f.offset + P.cellsOf f.type)))
    | _ => false

section
variable {H : Type} {enc : TypeId × Value → H} {P : Program} {w : World} {base : Nat} {spare : Nat → Bool} {held : Bool}
theorem allI64_cells : ∀ (n : Nat) (t : TypeId) (fuel : Nat) (cs : List Value) (x : DataW H × List MemPlace), allI64 P n t = true → DataW.trod enc P w base spare held fuel t cs = some x →
    ∀ (j : Nat) (v : Value), cs[j]? = some v → ∃ a : Int, v = .int .i64 a ∧ (Lit.int .i64 a).wf = true
  | 0, _, _, _, _, h, _ => by simp [allI64] at h
  | n + 1, t, fuel, cs, x, h, ht => by
    intro j v hv
    unfold allI64 at h
    split at h
    · rename_i hu
      obtain ⟨a, rfl, _, hw⟩ := DataW.trod_int hu ht
      have hj : j = 0 := by
        have := (List.getElem?_eq_some_iff.1 hv).1
        simp at this; exact this
      subst hj
      simp at hv
      exact ⟨a, hv.symm, hw⟩
    · rename_i fs hu
      rw [Bool.and_eq_true] at h
      obtain ⟨hf, hc⟩ := h
      obtain ⟨xs, m, _, _, hl, hlen, hat⟩ := DataW.trod_struct hu ht
      have hj : j < P.cellsOf t := by rw [← hl]; exact (List.getElem?_eq_some_iff.1 hv).1
      have h1 := List.all_eq_true.1 hc j (List.mem_range.2 hj)
      obtain ⟨f, hfm, h2⟩ := List.any_eq_true.1 h1
      rw [Bool.and_eq_true] at h2
      have h3 := of_decide_eq_true h2.1
      have h4 := of_decide_eq_true h2.2
      obtain ⟨i, hi⟩ := List.getElem?_of_mem hfm
      have hi' : fs[i]? = some f := by rw [← Array.getElem?_toList]; exact hi
      have hil : i < fs.size := (Array.getElem?_eq_some_iff.1 hi').1
      have h5 := hat i f hi'
      obtain ⟨y, hy⟩ : ∃ y, xs[i]? = some y := ⟨xs[i]'(by omega), List.getElem?_eq_getElem (by omega)⟩
      rw [hy] at h5
      refine allI64_cells n f.type m _ y (List.all_eq_true.1 hf f hfm) h5 (j - f.offset) v ?_
      rw [List.getElem?_take, if_pos (by omega), List.getElem?_drop]
      rw [show f.offset + (j - f.offset) = j by omega]; exact hv
    · cases h
theorem open_cells {r : Reach} {b0 n : Nat} {t : TypeId} {fs : Array Field} {v : Value} {d : DataW H} {p : List MemPlace} (hs : P.underlying t = some (.struct fs)) (hA : allI64 P n t = true)
    (hv : Value.okWide P w r b0 t v) (h : DataW.Trod enc P w base spare held t v d p) :
    ∃ cs : Array Value, v = .agg cs ∧ cs.size = P.cellsOf t ∧ ∀ (j : Nat) (u : Value), cs[j]? = some u → ∃ a : Int, u = .int .i64 a ∧ (Lit.int .i64 a).wf = true := by
  obtain ⟨cs, rfl, hsz⟩ := okWide_struct hs hv
  obtain ⟨fuel, hf⟩ := h
  refine ⟨cs, rfl, hsz, fun j u hu => ?_⟩
  refine allI64_cells n t fuel _ _ hA hf j u ?_
  simpa [Value.cells] using hu
theorem cells2 {cs : Array Value} (hsz : cs.size = 2) (h : ∀ (j : Nat) (u : Value), cs[j]? = some u → ∃ a : Int, u = .int .i64 a ∧ (Lit.int .i64 a).wf = true) :
    ∃ a b : Int, cs = #[.int .i64 a, .int .i64 b] ∧ (Lit.int .i64 a).wf = true ∧ (Lit.int .i64 b).wf = true := by
  obtain ⟨l⟩ := cs
  match l, hsz with
  | [x0, x1], _ =>
    obtain ⟨a, rfl, ha⟩ := h 0 x0 rfl
    obtain ⟨b, rfl, hb⟩ := h 1 x1 rfl
    exact ⟨a, b, rfl, ha, hb⟩
theorem cells3 {cs : Array Value} (hsz : cs.size = 3) (h : ∀ (j : Nat) (u : Value), cs[j]? = some u → ∃ a : Int, u = .int .i64 a ∧ (Lit.int .i64 a).wf = true) :
    ∃ a b c : Int, cs = #[.int .i64 a, .int .i64 b, .int .i64 c] ∧ (Lit.int .i64 a).wf = true ∧ (Lit.int .i64 b).wf = true ∧ (Lit.int .i64 c).wf = true := by
  obtain ⟨l⟩ := cs
  match l, hsz with
  | [x0, x1, x2], _ =>
    obtain ⟨a, rfl, ha⟩ := h 0 x0 rfl
    obtain ⟨b, rfl, hb⟩ := h 1 x1 rfl
    obtain ⟨c, rfl, hc⟩ := h 2 x2 rfl
    exact ⟨a, b, c, rfl, ha, hb, hc⟩
theorem cells6 {cs : Array Value} (hsz : cs.size = 6) (h : ∀ (j : Nat) (u : Value), cs[j]? = some u → ∃ a : Int, u = .int .i64 a ∧ (Lit.int .i64 a).wf = true) :
    ∃ a b c d e f : Int, cs = #[.int .i64 a, .int .i64 b, .int .i64 c, .int .i64 d, .int .i64 e, .int .i64 f] ∧ (Lit.int .i64 a).wf = true ∧ (Lit.int .i64 b).wf = true ∧ (Lit.int .i64 c).wf = true ∧ (Lit.int .i64 d).wf = true ∧ (Lit.int .i64 e).wf = true ∧ (Lit.int .i64 f).wf = true := by
  obtain ⟨l⟩ := cs
  match l, hsz with
  | [x0, x1, x2, x3, x4, x5], _ =>
    obtain ⟨a, rfl, ha⟩ := h 0 x0 rfl
    obtain ⟨b, rfl, hb⟩ := h 1 x1 rfl
    obtain ⟨c, rfl, hc⟩ := h 2 x2 rfl
    obtain ⟨d, rfl, hd⟩ := h 3 x3 rfl
    obtain ⟨e, rfl, he⟩ := h 4 x4 rfl
    obtain ⟨f, rfl, hf⟩ := h 5 x5 rfl
    exact ⟨a, b, c, d, e, f, rfl, ha, hb, hc, hd, he, hf⟩
end

theorem own : ownKnob Tryd.prog.godebug = none := by kernel_rfl
theorem laidOut : laidOutB Tryd.prog = true := by kernel_rfl
/-- The variables that the row lists, with what they hold. -/
def laidL : List (String × DataW Unit) := [("math/bits.deBruijn32tab", Rows.laid_math_bits_deBruijn32tab), ("math/bits.deBruijn64tab", Rows.laid_math_bits_deBruijn64tab), ("internal/strconv.uint64pow10", Rows.laid_internal_strconv_uint64pow10)]
/-- The door's own heap meets the condition. -/
theorem door_met (os : Os) (args : Array Value) : laidMetH Tryd.prog laidL ((World.doorLaid Tryd.prog 400 os).forCall (fun _ _ => 0) ⟨#[], args, []⟩).memory :=
  laidMetH_of_parts3 (fuel := 8) (laidMet_of_run' 8 (by kernel_rfl) (by kernel_rfl)) (by kernel_rfl) (by kernel_rfl)
theorem tab_of (W : World) (h : laidMetH Tryd.prog laidL W) : Lib.TabIs Tryd.prog W "internal/strconv.uint64pow10" .u64 Lib.pow10Tab := by
  rw [MakeChecks.laidMetH_plain _ _ _ (by kernel_rfl)] at h
  exact Lib.tabIs_of_head (g := 1) (t := 108) (e := 89) (n := 20) (by kernel_rfl) (by kernel_rfl) Tryd.underlying108 Tryd.underlying89 (by kernel_rfl) (by kernel_rfl) h.tail.tail
set_option maxRecDepth 100000 in
theorem lifted (os : Os) (started : os.Started) (H : Type) (enc : TypeId × Value → H) :
    ReturnsInHanded {} Tryd.checked os 4 .any (fun w args => (Rows.fnExactDateTextSpec.pre enc Tryd.prog Tryd.f4 [] false w args ∧ laidMetH Tryd.prog laidL w) ∧ sizedMet enc Tryd.prog Tryd.f4 (OpenSpec.ofChange Rows.fnExactDateTextSpec) false w args) (Rows.fnExactDateTextSpec.post enc Tryd.prog Tryd.f4 false true false false) := by
  refine returnsInHanded_of_change_and (C := Tryd.checked) (X := fun w _ => laidMetH Tryd.prog laidL w) (fun _ _ _ hh h => h.of_heap hh) own started (by kernel_rfl) Tryd.func4
    (ChangeSpec.witness_shaped (enc := enc) (C := Tryd.checked) (os := os) (X := fun w _ => laidMetH Tryd.prog laidL w) false (World.doorLaid Tryd.prog 400 os) #[.agg #[.int .i64 0, .int .i64 0, .int .i64 0]] 8 rfl (World.shaped_of_RefB (by kernel_rfl) (by kernel_rfl)) (by kernel_rfl) (by kernel_rfl) (by kernel_rfl) (door_met os _)) ?_
  intro W base args ds gs before hval0 hW hcnd hsz0 hL _
  have hval : ∀ (j : Nat) t v, Tryd.f4.params[j]? = some t → args[j]? = some v → Value.okWide Tryd.prog W .any base t v := hval0
  have hW' := hW
  obtain ⟨p, q, hA0, hV, rfl, hfz, hnd⟩ := hW
  have hA : DataW.TrodAll enc Tryd.prog W 0 (fun _ => true) true Tryd.f4.params.toList args.toList ds p := hA0
  rw [Tryd.params4] at hA hval
  obtain ⟨v0, vs0, d0, ds0, p0, q0, hargs, rfl, rfl, h0, r0⟩ := trodAll_cons hA
  obtain ⟨rfl, rfl, rfl⟩ := trodAll_nil r0
  obtain rfl : args = #[v0] := by cases args; simp_all
  obtain ⟨rfl, rfl⟩ := trodVars_none hV
  have k0 := h0
  have lt0 : ∀ x ∈ p0, x.block < W.heap.size := by obtain ⟨m, hm⟩ := k0; exact DataW.trod_lt m _ _ _ hm
  obtain ⟨c0, rfl, z0, e0⟩ := open_cells (n := 4) Tryd.underlying26 (by kernel_rfl) (hval 0 26 v0 rfl rfl) h0
  obtain ⟨a0_0, a0_1, a0_2, rfl, w0_0, w0_1, w0_2⟩ := cells3 (z0.trans (by kernel_rfl)) e0
  obtain ⟨k, hp⟩ := Pure.FnExactDateText a0_0 a0_1 a0_2 w0_0 w0_1 w0_2
  refine (PFnExactDateText.laws_FnExactDateText.calls k a0_0 a0_1 a0_2 true W hp ⟨Lib.tabBelow_of_tabIs (tab_of W hL)⟩).mono fun e W' ⟨he, bel0⟩ => ?_
  have bel : Below W.heap.size W W' := bel0
  subst he
  exact ⟨_, rfl, _, _, _, [], _, [], hW', trodAll_mk1 (shut_bool Tryd.underlying4 _), (trodAll_cons_mk (Below.trod laidOut (by kernel_rfl) (of_decide_eq_true (by kernel_rfl)) k0 bel lt0) trodAll_mk0), rfl, bel.frame _, fun h => by cases h⟩
theorem over : Rows.fnExactDateTextRow.holds Tryd.pinned (OpenSpec.ofChange Rows.fnExactDateTextSpec) :=
  OpenClaim.holds_of_wide 4 Tryd.f4 rfl rfl rfl rfl rfl rfl rfl ⟨rfl, rfl, rfl, rfl, rfl⟩ rfl rfl rfl rfl rfl (by kernel_rfl) Tryd.func4 (by kernel_rfl)
    (of_decide_eq_true (by kernel_rfl)) (by unfold Func.isWrapper; first | (rw [if_pos (by decide +kernel)]; kernel_rfl) | (rw [if_neg (by decide +kernel)]; exact ⟨rfl, rfl⟩))
    (fun os started H enc _ => lifted os started H enc)
theorem card : Rows.FnExactDateTextCardSaid :=
  Claim7.holds_tied_plain_at .later [] [.data, .data, .data] true (true, "f6b402eaaabf97166f521bf8a0309a14ed819b98992d3a4cfc3451d110948801") true
    over (fun _ h => by cases h) (by kernel_rfl) (fun _ h => by cases h) fnExactDateText_row_tie rfl ⟨rfl, rfl⟩ (by kernel_rfl) rfl
    (fun f fn hf hfn => by
      obtain rfl : f = 4 := Option.some.inj ((show Tryd.prog.funcNamed "loop.example/g00948/laws.FnExactDateText" = some 4 by kernel_rfl).symm.trans hf) |>.symm
      obtain rfl : fn = Tryd.f4 := (Option.some.inj (Tryd.func4.symm.trans hfn)).symm
      exact ⟨by kernel_rfl, fun j t ht => by
        have hm : t ∈ Tryd.f4.params := Array.mem_of_getElem? ht
        have hall : (Tryd.f4.params.toList.all fun u => !Tryd.prog.wantsStandIn u) = true := by kernel_rfl
        exact (show Tryd.prog.wantsStandIn t = false by simpa using List.all_eq_true.1 hall t (by simpa using hm))⟩)
    (by kernel_rfl)
#print axioms card
end Go.Proofs.YtjheehbejehlaaaDoor.fnExactDateText
namespace Go.Proofs.YtjheehbejehlaaaDoor
/-- The tied card, under a short name, for the claim. -/
theorem fnExactDateText_holds : Rows.FnExactDateTextCardSaid := fnExactDateText.card
end Go.Proofs.YtjheehbejehlaaaDoor
