/- OpenAtEnd: for every list the law answers true. -/
import Derived.Test.YtelnidlfeaihmaaGx25
import Derived.Test.YtelnidlfeaihmaaPureB
namespace Go.Proofs.Ytelnidlfeaihmaa.Pure
open Go.RowKit Go.Proofs.Ytelnidlfeaihmaa.G Go.Proofs.YtelnidlfeaihmaaW.PrintWords Go.Proofs.YtelnidlfeaihmaaW.PrintLast
set_option linter.unusedVariables false
set_option linter.unusedSimpArgs false
theorem FnExactOpenAtEnd : laws_FnExactOpenAtEnd.Pure := by
  intro l _ _ _
  by_cases hbig : (l.length : Int) > 1048576
  · exact ⟨0, by simp only [laws_FnExactOpenAtEnd.f]; rw [if_pos hbig]⟩
  · refine ⟨l.length + 100 + 5, ?_⟩
    generalize hK : l.length + 100 = K
    obtain ⟨r, b, hr, hs, hi⟩ : ∃ r b, r.length ≤ l.length ∧ (∀ k, K ≤ k → spec_OpenAtEnd.f k l = some (r, b)) ∧ impl_OpenAtEnd.f l = some (r, b) := by
      by_cases h : entriesB l = true
      · refine ⟨l.foldl bkStep [], true, by simpa using bkLast_length [] l, fun k hk => ?_, ?_⟩
        · unfold spec_OpenAtEnd.f
          rw [good_eq l (by omega) k (by omega)]
          simp [h, spec_l7Read.f]
        · simp [impl_OpenAtEnd.f, impl_areEntries.f, left_eq l h, h]
      · refine ⟨[], false, Nat.zero_le _, fun k hk => ?_, ?_⟩
        · unfold spec_OpenAtEnd.f
          rw [good_eq l (by omega) k (by omega)]
          simp [h]
        · simp [impl_OpenAtEnd.f, impl_areEntries.f, h]
    have hT : ∀ k, K ≤ k → laws_toIntS.f k l = some l := fun k hk => toIntS_eq l (by omega) k (by omega)
    have hE : ∀ k, K ≤ k → laws_eqIntS.f k l l = some true := fun k hk => eqIntS_same l (by omega) k (by omega)
    have hE2 : ∀ k, K ≤ k → laws_eqIntS.f k r r = some true := fun k hk => eqIntS_same r (by omega) k (by omega)
    have hM : ∀ k, K ≤ k → laws_markIntS.f k l 1 = some (1 + (l.length : Int), mk l) := fun k hk => markIntS_eq l (by omega) k (by omega)
    have hM2 : ∀ k, K ≤ k → laws_markIntS.f k r 1 = some (1 + (r.length : Int), mk r) := fun k hk => markIntS_eq r (by omega) k (by omega)
    have hH : ∀ k, K ≤ k → laws_heldIntS.f k (mk r) 1 = some (1 + (r.length : Int)) := fun k hk => heldIntS_eq r (by omega) k (by omega)
    have n1 : ¬ (1 + (l.length : Int) < 0) := by omega
    have n2 : ¬ (1 + (r.length : Int) < 0) := by omega
    clear hK
    simp [laws_FnExactOpenAtEnd.f, laws_FnExactOpenAtEnd.j0, laws_FnExactOpenAtEnd.j1, laws_FnExactOpenAtEnd.j2, hbig, hT, hs, hi, hE, hE2, hM, hM2, hH, n1, n2]
end Go.Proofs.Ytelnidlfeaihmaa.Pure
