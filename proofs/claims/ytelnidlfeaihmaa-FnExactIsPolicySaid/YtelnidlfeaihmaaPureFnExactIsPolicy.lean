/- IsPolicy: for every policy the law answers true. -/
import Derived.Test.YtelnidlfeaihmaaPFnExactIsPolicyx1
namespace Go.Proofs.Ytelnidlfeaihmaa.PureFnExactIsPolicy
open Go.RowKit Go.Proofs.Ytelnidlfeaihmaa.PFnExactIsPolicy Go.Proofs.YtelnidlfeaihmaaW.PrintWords Go.Proofs.YtelnidlfeaihmaaW.PrintLast Go.Proofs.YtelnidlfeaihmaaW.PrintMore
theorem in_some (x lo hi : Int) : impl_in.f x lo hi = some (decide (lo ≤ x ∧ x ≤ hi)) := by
  unfold impl_in.f
  by_cases h : lo ≤ x <;> simp [h]
theorem l1In_some (x lo hi : Int) : spec_l1In.f x lo hi = some (decide (lo ≤ x ∧ x ≤ hi)) := by
  unfold spec_l1In.f
  by_cases h : lo ≤ x <;> simp [h]
theorem same (t w f m : Int) : ∃ b, impl_IsPolicy.f t w f m = some b ∧ spec_IsPolicy.f t w f m = some b := by
  unfold impl_IsPolicy.f spec_IsPolicy.f spec_l8Policy.f
  simp only [in_some, l1In_some, Option.bind_some]
  by_cases h1 : 1 ≤ t ∧ t ≤ 20 <;> by_cases h2 : 0 ≤ w ∧ w ≤ 10000 <;> by_cases h3 : 0 ≤ m ∧ m ≤ 10000 <;> simp [h1, h2, h3]
theorem law (t w f m : Int) : laws_FnExactIsPolicy.f t w f m = some true := by
  obtain ⟨b, h1, h2⟩ := same t w f m
  unfold laws_FnExactIsPolicy.f
  simp only [laws_toPolicy.f, Option.bind_some]
  rw [h2]
  simp only [Option.bind_some]
  rw [h1]
  simp
end Go.Proofs.Ytelnidlfeaihmaa.PureFnExactIsPolicy
