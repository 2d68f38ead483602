/- What the claim FnExactLintProgram rests on, part 29 of 29; the last part proves it: for every input the law answers true, and its arguments read behind the call as before it. No condition. -/
import Derived.Test.YtpenhegoilccoaaRows
import Derived.WalkKit
import Derived.ProofKit
import Derived.OpenShut
import Derived.ShutString
import Derived.ChangeOld
import Derived.Below
import Derived.SizedLaws
import Derived.Lib.SmallJoins
import Derived.Test.YtpenhegoilccoaaQLintProgram23
import Derived.Test.YtpenhegoilccoaaQLintProgram28
set_option linter.unusedVariables false
set_option maxRecDepth 100000
set_option maxHeartbeats 1000000
namespace Go.Proofs.Ytpenhegoilccoaa.fnExactLintProgram
open Go.ChangeShapes Go.WideShapes Go.ChangeAt Go.RowKit Go.Joins Go.Proofs.Ytpenhegoilccoaa.G Go.Proofs.Ytpenhegoilccoaa.SX
open Go.ChangeMaps (open_string shut_string)
theorem own : ownKnob Try.prog.godebug = none := by kernel_rfl
theorem laidOut : laidOutB Try.prog = true := by kernel_rfl
theorem lifted (os : Os) (started : os.Started) (H : Type) (enc : TypeId × Value → H) :
    ReturnsInHanded {} Try.checked os 5 .any (Rows.fnExactLintProgramSpec.pre6 enc Try.prog Try.f5 Rows.fnExactLintProgramRow.domain false) (Rows.fnExactLintProgramSpec.post enc Try.prog Try.f5 false true false false) := by
  refine returnsInHanded_of_change_sized (C := Try.checked) own started (by kernel_rfl) Try.func5
    (ChangeSpec.witness6 (enc := enc) (C := Try.checked) false ⟨#[], #[.agg #[.slice none 0 0]], []⟩ 8 (by kernel_rfl) (by kernel_rfl) (by kernel_rfl) (by kernel_rfl)) ?_
  intro W base args ds gs before hval0 hW hcnd hsz0 _
  have hval : ∀ (j : Nat) t v, Try.f5.params[j]? = some t → args[j]? = some v → Value.okWide Try.prog W .any base t v := hval0
  have hW' := hW
  obtain ⟨p, q, hA0, hV, rfl, hfz, hnd⟩ := hW
  have hA : DataW.TrodAll enc Try.prog W 0 (fun _ => true) true Try.f5.params.toList args.toList ds p := hA0
  rw [Try.params5] at hA hval
  obtain ⟨v0, vs0, d0, ds0, p0, q0, hargs0, rfl, rfl, h0, r0⟩ := trodAll_cons hA
  obtain ⟨rfl, rfl, rfl⟩ := trodAll_nil r0
  obtain rfl : args = #[v0] := by cases args; simp_all
  obtain ⟨rfl, rfl⟩ := trodVars_none hV
  have k0 := h0
  have lt0 : ∀ x ∈ p0, x.block < W.heap.size := by obtain ⟨m, hm⟩ := k0; exact DataW.trod_lt m _ _ _ hm
  obtain ⟨s0, l0, rfl, hr0⟩ : ∃ (s0 : Sl) (l0 : List (List S165)), v0 = .agg #[.slice s0.A s0.n s0.c] ∧ RdS k165 165 W s0 l0 := by
    obtain ⟨cs, rfl, hsz⟩ := okWide_struct Try.underlying24 (hval 0 24 v0 rfl rfl);obtain ⟨fuel, hf⟩ := h0;obtain ⟨s0, l0, e, hr⟩ := rdb_program hf;refine ⟨s0, l0, ?_, hr⟩;have e2 : cs.toList = [Value.slice s0.A s0.n s0.c] := by simpa [Value.cells] using e
    exact congrArg Value.agg (Array.toList_inj.1 e2)
  clear hA0 hval0 hsz0
  refine (law5_walk W s0 l0 hr0).mono fun e W' h => ?_
  cases e with
  | returned v =>
    obtain ⟨he, bel⟩ := h;subst he;exact ⟨_, rfl, _, _, _, [], _, [], hW', trodAll_mk1 (shut_bool Try.underlying4 _), (trodAll_cons_mk (Below.trod laidOut (by kernel_rfl) (of_decide_eq_true (by kernel_rfl)) k0 bel lt0) trodAll_mk0), rfl, bel.frame _, fun h => by cases h⟩
  | _ => exact h.elim
theorem and_t {a b : Bool} (h : a = true) (k : b = true) : (a && b) = true := by rw [h, k]; rfl
theorem mayE : Try.prog.mayEnter = true := by kernel_rfl
theorem lifE : (Rows.fnExactLintProgramRow.lifted == Try.prog.liftsFinal) = true := by kernel_rfl
theorem makE : (Try.prog.make == some Rows.fnExactLintProgramRow.make) = true := by kernel_rfl
theorem closed : joinedFacts Try.prog 5 Try.f5 Rows.fnExactLintProgramSpec Rows.fnExactLintProgramRow = true := by
 unfold joinedFacts
 refine and_t (and_t (and_t (and_t (and_t (and_t (and_t ?_ mayE) lifE) makE) ?_) ?_) ?_) ?_
 all_goals kernel_rfl
theorem over : Rows.fnExactLintProgramRow.holds Try.pinned (OpenSpec.ofChange Rows.fnExactLintProgramSpec) :=
  OpenClaim.holds_of_wide 5 Try.f5 rfl rfl rfl rfl rfl rfl rfl ⟨rfl, rfl, rfl, rfl, rfl⟩ rfl rfl rfl rfl rfl (by kernel_rfl) Try.func5 closed
    (of_decide_eq_true (by kernel_rfl)) (by unfold Func.isWrapper; first | (rw [if_pos (by decide +kernel)]; kernel_rfl) | (rw [if_neg (by decide +kernel)]; exact ⟨rfl, rfl⟩))
    (fun os started H enc _ => lifted os started H enc)
end Go.Proofs.Ytpenhegoilccoaa.fnExactLintProgram
namespace Go.Proofs.Ytpenhegoilccoaa
theorem fnExactLintProgram_holds : Rows.FnExactLintProgramSaid := fnExactLintProgram.over
end Go.Proofs.Ytpenhegoilccoaa
