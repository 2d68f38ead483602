/- IsNested: for every list the law answers true. -/
import Derived.Test.YtelnidlfeaihmaaGx16
import Derived.Test.YtelnidlfeaihmaaPureB
namespace Go.Proofs.Ytelnidlfeaihmaa.Pure
open Go.RowKit Go.Proofs.Ytelnidlfeaihmaa.G Go.Proofs.YtelnidlfeaihmaaW.PrintWords Go.Proofs.YtelnidlfeaihmaaW.PrintLast Go.Proofs.YtelnidlfeaihmaaW.PrintMore
set_option linter.unusedVariables false
set_option linter.unusedSimpArgs false
theorem erase_last {o : List Int} {x : Int} (h : o.Nodup) (hx : x ∈ o) : (o == o.erase x ++ [x]) = (o.getLast? == some x) := by
  by_cases hl : o.getLast? = some x
  · rw [hl, beq_self_eq_true, beq_iff_eq]
    obtain ⟨p, rfl⟩ : ∃ p, o = p ++ [x] := by
      have hne : o ≠ [] := List.ne_nil_of_mem hx
      refine ⟨o.dropLast, ?_⟩
      have h1 := List.dropLast_concat_getLast hne
      rw [List.getLast?_eq_some_getLast hne] at hl
      injection hl with hl
      rw [hl] at h1
      exact h1.symm
    have hn : x ∉ p := fun hm => by
      have := (List.nodup_append.1 h).2.2
      exact this x hm x (List.mem_singleton.2 rfl) rfl
    rw [List.erase_append_right _ hn]
    simp
  · rw [beq_eq_false_iff_ne.2 hl, beq_eq_false_iff_ne]
    intro e
    apply hl
    rw [e]
    simp
theorem nest_same : ∀ (l o : List Int) (i : Int), o.Nodup → (∀ x ∈ o, 0 < x) → bkFaults i o l = [] → bkNest o (bkOpens o l) l = bkNestS o l := by
  intro l
  induction l with
  | nil => intro o i _ _ _; simp [bkNest, bkOpens, bkNestS]
  | cons n l ih =>
    intro o i hnd hpos hf
    rw [bkFaults, List.append_eq_nil_iff] at hf
    obtain ⟨hb, hf⟩ := hf
    have hb' : bkBad o n = false := by
      by_cases h : bkBad o n = true
      · rw [if_pos h] at hb; cases hb
      · exact Bool.eq_false_iff.2 h
    rw [bkOpens, bkNest, bkNestS, ih (bkStep o n) (i + 1) (bkStep_nodup hnd) (bkStep_pos hpos) hf]
    congr 1
    by_cases hn : 0 ≤ n
    · rw [decide_eq_true hn]; rfl
    · rw [decide_eq_false hn, Bool.false_or, Bool.false_or]
      have hm : max n (-n) = -n := by omega
      have hmem : -n ∈ o := by
        unfold bkBad at hb'
        rw [hm, decide_eq_true (show n ≠ 0 by omega), Bool.true_and, decide_eq_false (show ¬ 0 < n by omega)] at hb'
        by_cases hc : -n ∈ o
        · exact hc
        · rw [Bool.eq_false_iff.2 fun h => hc (List.contains_iff_mem.1 h)] at hb'
          cases hb'
      have hs : bkStep o n = o.erase (-n) := by unfold bkStep; rw [if_neg (by omega), hm]
      rw [hs]
      exact erase_last hnd hmem
theorem nested_same (l : List Int) : (bkNested (bkOpens [] l) l && bkTidyS l) = (bkNestS [] l && bkTidyS l) := by
  by_cases ht : bkTidyS l = true
  · rw [ht, Bool.and_true, Bool.and_true]
    unfold bkTidyS at ht
    rw [Bool.and_eq_true] at ht
    have hf : bkFaults 0 [] l = [] := List.isEmpty_iff.1 ht.2
    have h := nest_same l [] 0 List.nodup_nil (fun x hx => by cases hx) hf
    cases l with
    | nil => simp [bkNested, bkOpens, bkNestS]
    | cons n l =>
      rw [bkFaults, List.append_eq_nil_iff] at hf
      have hn : 0 ≤ n := by
        by_cases hn : 0 ≤ n
        · exact hn
        · exfalso
          have : bkBad [] n = true := by
            unfold bkBad
            rw [decide_eq_true (show n ≠ 0 by omega), decide_eq_false (show ¬ 0 < n by omega)]
            rfl
          have h1 := hf.1
          rw [if_pos this] at h1
          cases h1
      rw [← h, bkOpens, bkNest, decide_eq_true hn]
      rfl
  · rw [Bool.eq_false_iff.2 ht, Bool.and_false, Bool.and_false]
theorem FnExactIsNested : laws_FnExactIsNested.Pure := by
  intro l _ _ _
  by_cases hbig : (l.length : Int) > 1048576
  · exact ⟨0, by simp only [laws_FnExactIsNested.f]; rw [if_pos hbig]⟩
  · refine ⟨l.length + 100 + 5, ?_⟩
    generalize hK : l.length + 100 = K
    obtain ⟨r, b, hs, hi⟩ : ∃ r b, spec_IsNested.f l = some (r, b) ∧ impl_IsNested.f l = some (r, b) := by
      by_cases h : entriesB l = true
      · refine ⟨bkNestS [] l && bkTidyS l, true, ?_, ?_⟩
        · unfold spec_IsNested.f
          rw [if_pos (by omega), h]
          rfl
        · unfold impl_IsNested.f
          rw [h, nested_same]
          rfl
      · refine ⟨false, false, ?_, ?_⟩
        · unfold spec_IsNested.f
          rw [if_pos (by omega), Bool.eq_false_iff.2 h]
          rfl
        · unfold impl_IsNested.f
          rw [Bool.eq_false_iff.2 h]
          rfl
    have hT : ∀ k, K ≤ k → laws_toIntS.f k l = some l := fun k hk => toIntS_eq l (by omega) k (by omega)
    have hE : ∀ k, K ≤ k → laws_eqIntS.f k l l = some true := fun k hk => eqIntS_same l (by omega) k (by omega)
    clear hK
    simp [laws_FnExactIsNested.f, laws_FnExactIsNested.j0, hbig, hT, hs, hi, hE]
end Go.Proofs.Ytelnidlfeaihmaa.Pure
