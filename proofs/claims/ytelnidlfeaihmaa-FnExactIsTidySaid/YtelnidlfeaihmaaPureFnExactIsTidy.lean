/- IsTidy: for every list the law answers true. -/
import Derived.Test.YtelnidlfeaihmaaGx18
import Derived.Test.YtelnidlfeaihmaaPureB
namespace Go.Proofs.Ytelnidlfeaihmaa.Pure
open Go.RowKit Go.Proofs.Ytelnidlfeaihmaa.G Go.Proofs.YtelnidlfeaihmaaW.PrintWords Go.Proofs.YtelnidlfeaihmaaW.PrintLast
set_option linter.unusedVariables false
set_option linter.unusedSimpArgs false
theorem FnExactIsTidy : laws_FnExactIsTidy.Pure := by
  intro l _ _ _
  by_cases hbig : (l.length : Int) > 1048576
  · exact ⟨0, by simp only [laws_FnExactIsTidy.f]; rw [if_pos hbig]⟩
  · refine ⟨l.length + 100 + 5, ?_⟩
    generalize hK : l.length + 100 = K
    obtain ⟨r, b, hs, hi⟩ : ∃ r b, (∀ k, K ≤ k → spec_IsTidy.f k l = some (r, b)) ∧ impl_IsTidy.f l = some (r, b) := by
      by_cases h : entriesB l = true
      · refine ⟨decide (l.foldl bkStep [] = []) && decide (bkFaults 0 [] l = []), true, fun k hk => ?_, ?_⟩
        · unfold spec_IsTidy.f
          rw [good_eq l (by omega) k (by omega)]
          simp only [h, spec_l7Read.f, spec_l7Tidy.f, Option.bind_some, if_true]
          by_cases h1 : l.foldl bkStep [] = [] <;> by_cases h2 : bkFaults 0 [] l = [] <;> simp [h1, h2]
        · simp only [impl_IsTidy.f, impl_isTidy.f, impl_books.f, impl_areEntries.f, left_eq l h, h, Option.bind_some, if_true]
          by_cases h1 : l.foldl bkStep [] = [] <;> by_cases h2 : bkFaults 0 [] l = [] <;> simp [h1, h2]
      · refine ⟨false, false, fun k hk => ?_, ?_⟩
        · unfold spec_IsTidy.f
          rw [good_eq l (by omega) k (by omega)]
          simp [h]
        · simp [impl_IsTidy.f, impl_areEntries.f, h]
    have hT : ∀ k, K ≤ k → laws_toIntS.f k l = some l := fun k hk => toIntS_eq l (by omega) k (by omega)
    have hE : ∀ k, K ≤ k → laws_eqIntS.f k l l = some true := fun k hk => eqIntS_same l (by omega) k (by omega)
    clear hK
    simp [laws_FnExactIsTidy.f, laws_FnExactIsTidy.j0, hbig, hT, hs, hi, hE]
end Go.Proofs.Ytelnidlfeaihmaa.Pure
