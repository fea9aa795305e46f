/- Proved: the given statement FnExactSineRangeSaid: for every input the law FnExactSineRange returns true. Conditions: none beyond the statement's own. -/
import Derived.Test.YtllapjemdegnjaaRows
import Derived.Test.YtllapjemdegnjaaQFnExactSineRangex3
import Derived.Test.YtllapjemdegnjaaPureFnExactSineRange
import Derived.WalkKit
import Derived.ProofKit
import Derived.OpenShut
import Derived.ShutString
import Derived.ChangeOld
import Derived.Below
import Derived.SizedLaws
namespace Go.Proofs.Ytllapjemdegnjaa.fnExactSineRange
open Go.ChangeShapes Go.WideShapes Go.ChangeAt Go.RowKit
open Go.ChangeMaps (open_string shut_string)
set_option linter.unusedVariables false
/-- A type whose every cell is a signed 64-bit integer: such an integer, or a struct of such types. -/
def allI64 (P : Program) : Nat → TypeId → Bool
  | 0, _ => false
  | n + 1, t => match P.underlying t with
    | some (.int .i64) => true
    | some (.struct fs) => fs.toList.all (fun f => allI64 P n f.type) && (List.range (P.cellsOf t)).all (fun j => fs.toList.any (fun f => decide (f.offset ≤ j) && decide (j < f.offset + P.cellsOf f.type)))
    | _ => false

section
variable {H : Type} {enc : TypeId × Value → H} {P : Program} {w : World} {base : Nat} {spare : Nat → Bool} {held : Bool}
theorem allI64_cells : ∀ (n : Nat) (t : TypeId) (fuel : Nat) (cs : List Value) (x : DataW H × List MemPlace), allI64 P n t = true → DataW.trod enc P w base spare held fuel t cs = some x →
    ∀ (j : Nat) (v : Value), cs[j]? = some v → ∃ a : Int, v = .int .i64 a ∧ (Lit.int .i64 a).wf = true
  | 0, _, _, _, _, h, _ => by simp [allI64] at h
  | n + 1, t, fuel, cs, x, h, ht => by
    intro j v hv
    unfold allI64 at h
    split at h
    · rename_i hu
      obtain ⟨a, rfl, _, hw⟩ := DataW.trod_int hu ht
      have hj : j = 0 := by
        have := (List.getElem?_eq_some_iff.1 hv).1
        simp at this; exact this
      subst hj
      simp at hv
      exact ⟨a, hv.symm, hw⟩
    · rename_i fs hu
      rw [Bool.and_eq_true] at h
      obtain ⟨hf, hc⟩ := h
      obtain ⟨xs, m, _, _, hl, hlen, hat⟩ := DataW.trod_struct hu ht
      have hj : j < P.cellsOf t := by rw [← hl]; exact (List.getElem?_eq_some_iff.1 hv).1
      have h1 := List.all_eq_true.1 hc j (List.mem_range.2 hj)
      obtain ⟨f, hfm, h2⟩ := List.any_eq_true.1 h1
      rw [Bool.and_eq_true] at h2
      have h3 := of_decide_eq_true h2.1
      have h4 := of_decide_eq_true h2.2
      obtain ⟨i, hi⟩ := List.getElem?_of_mem hfm
      have hi' : fs[i]? = some f := by rw [← Array.getElem?_toList]; exact hi
      have hil : i < fs.size := (Array.getElem?_eq_some_iff.1 hi').1
      have h5 := hat i f hi'
      obtain ⟨y, hy⟩ : ∃ y, xs[i]? = some y := ⟨xs[i]'(by omega), List.getElem?_eq_getElem (by omega)⟩
      rw [hy] at h5
      refine allI64_cells n f.type m _ y (List.all_eq_true.1 hf f hfm) h5 (j - f.offset) v ?_
      rw [List.getElem?_take, if_pos (by omega), List.getElem?_drop]
      rw [show f.offset + (j - f.offset) = j by omega]; exact hv
    · cases h
theorem open_cells {r : Reach} {b0 n : Nat} {t : TypeId} {fs : Array Field} {v : Value} {d : DataW H} {p : List MemPlace} (hs : P.underlying t = some (.struct fs)) (hA : allI64 P n t = true)
    (hv : Value.okWide P w r b0 t v) (h : DataW.Trod enc P w base spare held t v d p) :
    ∃ cs : Array Value, v = .agg cs ∧ cs.size = P.cellsOf t ∧ ∀ (j : Nat) (u : Value), cs[j]? = some u → ∃ a : Int, u = .int .i64 a ∧ (Lit.int .i64 a).wf = true := by
  obtain ⟨cs, rfl, hsz⟩ := okWide_struct hs hv
  obtain ⟨fuel, hf⟩ := h
  refine ⟨cs, rfl, hsz, fun j u hu => ?_⟩
  refine allI64_cells n t fuel _ _ hA hf j u ?_
  simpa [Value.cells] using hu
theorem cells2 {cs : Array Value} (hsz : cs.size = 2) (h : ∀ (j : Nat) (u : Value), cs[j]? = some u → ∃ a : Int, u = .int .i64 a ∧ (Lit.int .i64 a).wf = true) :
    ∃ a b : Int, cs = #[.int .i64 a, .int .i64 b] ∧ (Lit.int .i64 a).wf = true ∧ (Lit.int .i64 b).wf = true := by
  obtain ⟨l⟩ := cs
  match l, hsz with
  | [x0, x1], _ =>
    obtain ⟨a, rfl, ha⟩ := h 0 x0 rfl
    obtain ⟨b, rfl, hb⟩ := h 1 x1 rfl
    exact ⟨a, b, rfl, ha, hb⟩
theorem cells3 {cs : Array Value} (hsz : cs.size = 3) (h : ∀ (j : Nat) (u : Value), cs[j]? = some u → ∃ a : Int, u = .int .i64 a ∧ (Lit.int .i64 a).wf = true) :
    ∃ a b c : Int, cs = #[.int .i64 a, .int .i64 b, .int .i64 c] ∧ (Lit.int .i64 a).wf = true ∧ (Lit.int .i64 b).wf = true ∧ (Lit.int .i64 c).wf = true := by
  obtain ⟨l⟩ := cs
  match l, hsz with
  | [x0, x1, x2], _ =>
    obtain ⟨a, rfl, ha⟩ := h 0 x0 rfl
    obtain ⟨b, rfl, hb⟩ := h 1 x1 rfl
    obtain ⟨c, rfl, hc⟩ := h 2 x2 rfl
    exact ⟨a, b, c, rfl, ha, hb, hc⟩
theorem cells6 {cs : Array Value} (hsz : cs.size = 6) (h : ∀ (j : Nat) (u : Value), cs[j]? = some u → ∃ a : Int, u = .int .i64 a ∧ (Lit.int .i64 a).wf = true) :
    ∃ a b c d e f : Int, cs = #[.int .i64 a, .int .i64 b, .int .i64 c, .int .i64 d, .int .i64 e, .int .i64 f] ∧ (Lit.int .i64 a).wf = true ∧ (Lit.int .i64 b).wf = true ∧ (Lit.int .i64 c).wf = true ∧ (Lit.int .i64 d).wf = true ∧ (Lit.int .i64 e).wf = true ∧ (Lit.int .i64 f).wf = true := by
  obtain ⟨l⟩ := cs
  match l, hsz with
  | [x0, x1, x2, x3, x4, x5], _ =>
    obtain ⟨a, rfl, ha⟩ := h 0 x0 rfl
    obtain ⟨b, rfl, hb⟩ := h 1 x1 rfl
    obtain ⟨c, rfl, hc⟩ := h 2 x2 rfl
    obtain ⟨d, rfl, hd⟩ := h 3 x3 rfl
    obtain ⟨e, rfl, he⟩ := h 4 x4 rfl
    obtain ⟨f, rfl, hf⟩ := h 5 x5 rfl
    exact ⟨a, b, c, d, e, f, rfl, ha, hb, hc, hd, he, hf⟩
end

theorem own : ownKnob Try.prog.godebug = none := by kernel_rfl
theorem laidOut : laidOutB Try.prog = true := by kernel_rfl
set_option maxRecDepth 100000 in
theorem lifted (os : Os) (started : os.Started) (H : Type) (enc : TypeId × Value → H) :
    ReturnsInHanded {} Try.checked os 13 .any (Rows.fnExactSineRangeSpec.pre6 enc Try.prog Try.f13 Rows.fnExactSineRangeRow.domain false) (Rows.fnExactSineRangeSpec.post enc Try.prog Try.f13 false true false false) := by
  refine returnsInHanded_of_change_sized (C := Try.checked) own started (by kernel_rfl) Try.func13
    (ChangeSpec.witness6 (enc := enc) (C := Try.checked) false ⟨#[], #[.agg #[.int .i64 0, .int .i64 0]], []⟩ 8 (by kernel_rfl) (by kernel_rfl) (by kernel_rfl) (by kernel_rfl)) ?_
  intro W base args ds gs before hval0 hW hcnd hsz0 _
  have hval : ∀ (j : Nat) t v, Try.f13.params[j]? = some t → args[j]? = some v → Value.okWide Try.prog W .any base t v := hval0
  have hW' := hW
  obtain ⟨p, q, hA0, hV, rfl, hfz, hnd⟩ := hW
  have hA : DataW.TrodAll enc Try.prog W 0 (fun _ => true) true Try.f13.params.toList args.toList ds p := hA0
  rw [Try.params13] at hA hval
  obtain ⟨v0, vs0, d0, ds0, p0, q0, hargs, rfl, rfl, h0, r0⟩ := trodAll_cons hA
  obtain ⟨rfl, rfl, rfl⟩ := trodAll_nil r0
  obtain rfl : args = #[v0] := by cases args; simp_all
  obtain ⟨rfl, rfl⟩ := trodVars_none hV
  have k0 := h0
  have lt0 : ∀ x ∈ p0, x.block < W.heap.size := by obtain ⟨m, hm⟩ := k0; exact DataW.trod_lt m _ _ _ hm
  obtain ⟨c0, rfl, z0, e0⟩ := open_cells (n := 4) Try.underlying23 (by kernel_rfl) (hval 0 23 v0 rfl rfl) h0
  obtain ⟨a0_0, a0_1, rfl, w0_0, w0_1⟩ := cells2 (z0.trans (by kernel_rfl)) e0
  obtain ⟨k, hp⟩ := Pure.FnExactSineRange a0_0 a0_1 w0_0 w0_1
  refine (PFnExactSineRange.laws_FnExactSineRange.calls k a0_0 a0_1 true W hp).mono fun e W' ⟨he, bel0⟩ => ?_
  have bel : Below W.heap.size W W' := bel0
  subst he
  exact ⟨_, rfl, _, _, _, [], _, [], hW', trodAll_mk1 (shut_bool Try.underlying4 _), (trodAll_cons_mk (Below.trod laidOut (by kernel_rfl) (of_decide_eq_true (by kernel_rfl)) k0 bel lt0) trodAll_mk0), rfl, bel.frame _, fun h => by cases h⟩
theorem over : Rows.fnExactSineRangeRow.holds Try.pinned (OpenSpec.ofChange Rows.fnExactSineRangeSpec) :=
  OpenClaim.holds_of_wide 13 Try.f13 rfl rfl rfl rfl rfl rfl rfl ⟨rfl, rfl, rfl, rfl, rfl⟩ rfl rfl rfl rfl rfl (by kernel_rfl) Try.func13 (by kernel_rfl)
    (of_decide_eq_true (by kernel_rfl)) (by unfold Func.isWrapper; first | (rw [if_pos (by decide +kernel)]; kernel_rfl) | (rw [if_neg (by decide +kernel)]; exact ⟨rfl, rfl⟩))
    (fun os started H enc _ => lifted os started H enc)
theorem proved : Rows.FnExactSineRangeSaid := over
#print axioms proved
end Go.Proofs.Ytllapjemdegnjaa.fnExactSineRange
namespace Go.Proofs.Ytllapjemdegnjaa
/-- The row, under a short name, for the claim. -/
theorem fnExactSineRange_holds : Rows.FnExactSineRangeSaid := fnExactSineRange.proved
end Go.Proofs.Ytllapjemdegnjaa
