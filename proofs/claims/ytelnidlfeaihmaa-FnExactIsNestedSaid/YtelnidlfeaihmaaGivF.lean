/- The contract of spec.l7Read in the printer's words. -/
import Derived.Test.YtelnidlfeaihmaaGivF0
import Derived.Test.YtelnidlfeaihmaaGx3
namespace Go.Proofs.Ytelnidlfeaihmaa.G
open Go.RowKit Go.Proofs.YtelnidlfeaihmaaW.PrintWords Go.Proofs.YtelnidlfeaihmaaW.PrintLast Go.Proofs.YtelnidlfeaihmaaW.PrintMore Go.Proofs.Ytelnidlfeaihmaa.SX
set_option linter.unusedVariables false
set_option linter.unusedSimpArgs false
theorem entriesB_iff {l : List Int} : entriesB l = true ↔ l.length ≤ 60 ∧ ∀ x ∈ l, -32767 ≤ x ∧ x ≤ 32767 := by
  simp only [entriesB, Bool.and_eq_true, decide_eq_true_eq, List.all_eq_true, entryB]
theorem spec_l7Read.calls (A0 : Option Addr) (c0 : Nat) (l0 : List Int) (r1 : List Int) (r2 : List Int) (w : World) (hr0 : Kd.C (Kd.int .i64) w A0 l0.length l0) (hc0 : l0.length ≤ c0) (h : spec_l7Read.f l0 = some (r1, r2)) :
    Calls Try.prog 72 #[.slice A0 l0.length c0] w fun e w' => ∃ v0_ v1_ : Value, e = .returned (.tuple #[v0_, v1_]) ∧ Kd.R (Kd.int .i64) 3 w' w.heap.size (fun k_ => some k_ ≠ (v1_ : Value).ownBlock) v0_ r1 ∧ Kd.R (Kd.int .i64) 3 w' w.heap.size (fun k_ => some k_ ≠ (v0_ : Value).ownBlock) v1_ r2 ∧ Below w.heap.size w w' := by
  unfold spec_l7Read.f at h
  split at h
  · rename_i he
    obtain ⟨rfl, rfl⟩ : l0.foldl bkStep [] = r1 ∧ bkFaults 0 [] l0 = r2 := by simpa using h
    rw [entriesB_iff] at he
    refine (read_sat w ⟨A0, l0.length, c0⟩ l0 ⟨rfl, hc0, hr0⟩ he.1 he.2).mono ?_
    intro e w' hp
    cases e with
    | returned r =>
      obtain ⟨v4, v5, rfl, hS⟩ := hp
      exact ⟨v4.v, v5.v, rfl, Sat.kdI hS 0 rfl (Sat.away2 hS 0 1 (by omega) rfl rfl), Sat.kdI hS 1 rfl (Sat.away2 hS 1 0 (by omega) rfl rfl), hS.below⟩
    | panicked c => exact hp.elim
    | outgrown => exact hp.elim
  · cases h
end Go.Proofs.Ytelnidlfeaihmaa.G
