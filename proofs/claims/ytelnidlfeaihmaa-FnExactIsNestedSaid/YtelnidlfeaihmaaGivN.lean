/- The contract of impl.IsNested in the printer's words. -/
import Derived.Test.YtelnidlfeaihmaaGivN0
import Derived.Test.YtelnidlfeaihmaaGx15
namespace Go.Proofs.Ytelnidlfeaihmaa.G
open Go.RowKit Go.Proofs.YtelnidlfeaihmaaW.PrintWords Go.Proofs.YtelnidlfeaihmaaW.PrintLast Go.Proofs.YtelnidlfeaihmaaW.PrintMore Go.Proofs.Ytelnidlfeaihmaa.SX
set_option linter.unusedVariables false
set_option linter.unusedSimpArgs false
theorem impl_IsNested.calls (A0 : Option Addr) (c0 : Nat) (l0 : List Int) (r1 : Bool) (r2 : Bool) (w : World) (hr0 : Kd.C (Kd.int .i64) w A0 l0.length l0) (hc0 : l0.length ≤ c0) (h : impl_IsNested.f l0 = some (r1, r2)) :
    Calls Try.prog 52 #[.slice A0 l0.length c0] w fun e w' => e = .returned (.tuple #[.bool r1, .bool r2]) ∧ Below w.heap.size w w' := by
  unfold impl_IsNested.f at h
  refine (nestI_sat w ⟨A0, l0.length, c0⟩ l0 ⟨rfl, hc0, hr0⟩).mono ?_
  intro e w' hp
  cases e with
  | returned r =>
    obtain ⟨h1, hb⟩ := hp
    refine ⟨?_, hb⟩
    split at h1 <;> rename_i he <;> simp only [he, if_true] at h <;> subst h1 <;> simp_all
  | panicked c => exact hp.elim
  | outgrown => exact hp.elim
end Go.Proofs.Ytelnidlfeaihmaa.G
