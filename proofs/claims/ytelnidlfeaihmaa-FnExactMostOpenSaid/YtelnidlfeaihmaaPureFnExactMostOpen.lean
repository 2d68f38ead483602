/- MostOpen: for every list the law answers true. -/
import Derived.Test.YtelnidlfeaihmaaGx23
import Derived.Test.YtelnidlfeaihmaaPureB
namespace Go.Proofs.Ytelnidlfeaihmaa.Pure
open Go.RowKit Go.Proofs.Ytelnidlfeaihmaa.G Go.Proofs.YtelnidlfeaihmaaW.PrintWords Go.Proofs.YtelnidlfeaihmaaW.PrintLast Go.Proofs.YtelnidlfeaihmaaW.PrintMore
set_option linter.unusedVariables false
set_option linter.unusedSimpArgs false
/-- The most that are ever open. -/
def mostO : Int → List (List Int) → Int
  | m, [] => m
  | m, o :: os => mostO (max m (o.length : Int)) os
theorem entriesB_take {l : List Int} (h : entriesB l = true) (i : Nat) : entriesB (l.take i) = true := by
  rw [entriesB_iff] at h ⊢
  exact ⟨by rw [List.length_take]; omega, fun x hx => h.2 x (List.mem_of_mem_take hx)⟩
theorem opens_get (l : List Int) : ∀ (o : List Int) (i : Nat), i < l.length → (bkOpens o l)[i]? = some ((l.take (i + 1)).foldl bkStep o) := by
  induction l with
  | nil => intro o i h; simp at h
  | cons n l ih =>
    intro o i h
    cases i with
    | zero => simp [bkOpens]
    | succ i => simpa [bkOpens] using ih (bkStep o n) i (by simpa using h)
theorem spec_l0 (l : List Int) (h : entriesB l = true) : ∀ d i (m : Int), i + d = l.length → 0 ≤ m → m ≤ 1000 → ∀ k, d + 1 < k →
    spec_MostOpen.l0 k l m (i : Int) = some (mostO m (((l.take i).foldl bkStep []) :: (bkOpens [] l).drop i), true) := by
  have hl := (entriesB_iff.1 h).1
  intro d
  induction d with
  | zero =>
    intro i m hi h0 h1 k hk
    obtain ⟨k, rfl⟩ : ∃ m, k = m + 2 := ⟨k - 2, by omega⟩
    have : i = l.length := by omega
    subst this
    have hb := bkLast_length [] l
    simp only [List.length_nil] at hb
    simp only [spec_MostOpen.l0]
    rw [if_pos (by omega), if_pos (by omega), Int.toNat_natCast, spec_l7Read.f, if_pos (entriesB_take h _), w64 (by omega) (by omega)]
    have hm : spec_l1Most.f m (((l.take l.length).foldl bkStep []).length : Int) = some (max m (((l.take l.length).foldl bkStep []).length : Int)) := by unfold spec_l1Most.f; split <;> (congr 1; omega)
    simp only [Option.bind_some]
    rw [hm]
    simp only [Option.bind_some]
    rw [if_neg (by omega), List.drop_eq_nil_of_le (by rw [bkOpens_length]; exact Nat.le_refl _)]
    rfl
  | succ d ih =>
    intro i m hi h0 h1 k hk
    obtain ⟨k, rfl⟩ : ∃ m, k = m + 1 := ⟨k - 1, by omega⟩
    have hb := bkLast_length [] (l.take i)
    rw [List.length_take] at hb
    simp only [List.length_nil] at hb
    simp only [spec_MostOpen.l0]
    rw [if_pos (by omega), if_pos (by omega), Int.toNat_natCast, spec_l7Read.f, if_pos (entriesB_take h _), w64 (by omega) (by omega)]
    have hm : spec_l1Most.f m (((l.take i).foldl bkStep []).length : Int) = some (max m (((l.take i).foldl bkStep []).length : Int)) := by unfold spec_l1Most.f; split <;> (congr 1; omega)
    simp only [Option.bind_some]
    rw [hm]
    simp only [Option.bind_some]
    rw [show ((i : Int) + 1) = ((i + 1 : Nat) : Int) from rfl, ih (i + 1) _ (by omega) (by omega) (by omega) k (by omega)]
    have hlt : i < (bkOpens [] l).length := by rw [bkOpens_length]; omega
    have e := opens_get l [] i (by omega)
    rw [List.getElem?_eq_getElem hlt] at e
    injection e with e
    rw [List.drop_eq_getElem_cons hlt, e]
    simp [mostO]
theorem impl_l0 (os : List (List Int)) (ho : os.length ≤ 60) (hb : ∀ o ∈ os, o.length ≤ 100) : ∀ d i (m : Int), i + d = os.length → 0 ≤ m → m ≤ 1000 → ∀ k, d < k →
    impl_MostOpen.l0 k m os (os.length : Int) (i : Int) = some (mostO m (os.drop i), true) := by
  intro d
  induction d with
  | zero =>
    intro i m hi h0 h1 k hk
    obtain ⟨k, rfl⟩ : ∃ m, k = m + 1 := ⟨k - 1, by omega⟩
    simp only [impl_MostOpen.l0]
    rw [if_neg (by omega), List.drop_eq_nil_of_le (by omega)]
    rfl
  | succ d ih =>
    intro i m hi h0 h1 k hk
    obtain ⟨k, rfl⟩ : ∃ m, k = m + 1 := ⟨k - 1, by omega⟩
    have hlt : i < os.length := by omega
    have hbi := hb _ (List.getElem_mem hlt)
    have e : rd_L1 os (i : Int) = os[i] := by simp [rd_L1, List.getD, hlt]
    simp only [impl_MostOpen.l0]
    rw [if_pos (by omega), if_pos (by omega), if_pos (by omega), e, w64 (by omega) (by omega), show ((i : Int) + 1) = ((i + 1 : Nat) : Int) from rfl]
    have hm : mx m (os[i].length : Int) = max m (os[i].length : Int) := by unfold mx; split <;> omega
    rw [hm, ih (i + 1) _ (by omega) (by omega) (by omega) k (by omega), List.drop_eq_getElem_cons hlt]
    rfl
theorem FnExactMostOpen : laws_FnExactMostOpen.Pure := by
  intro l _ _ _
  by_cases hbig : (l.length : Int) > 1048576
  · exact ⟨0, by simp only [laws_FnExactMostOpen.f]; rw [if_pos hbig]⟩
  · refine ⟨l.length + 100 + 5, ?_⟩
    generalize hK : l.length + 100 = K
    obtain ⟨r, b, hs, hi⟩ : ∃ r b, (∀ k, K ≤ k → spec_MostOpen.f k l = some (r, b)) ∧ (∀ k, K ≤ k → impl_MostOpen.f k l = some (r, b)) := by
      by_cases h : entriesB l = true
      · have hl := (entriesB_iff.1 h).1
        refine ⟨mostO 0 (bkOpens [] l), true, fun k hk => ?_, fun k hk => ?_⟩
        · unfold spec_MostOpen.f
          rw [good_eq l (by omega) k (by omega)]
          simp only [h, Option.bind_some, if_true]
          rw [show (0 : Int) = ((0 : Nat) : Int) from rfl, spec_l0 l h l.length 0 _ (by omega) (by omega) (by omega) k (by omega)]
          rfl
        · simp only [impl_MostOpen.f, impl_books.f, impl_areEntries.f, h, Option.bind_some, if_true]
          have := impl_l0 (bkOpens [] l) (by rw [bkOpens_length]; exact hl) (fun o ho => by
            obtain ⟨j, hj⟩ := List.getElem?_of_mem ho
            have hjl : j < l.length := by have := (List.getElem?_eq_some_iff.1 hj).1; rwa [bkOpens_length] at this
            rw [opens_get l [] j hjl] at hj
            injection hj with hj
            have := bkLast_length [] (l.take (j + 1))
            rw [hj, List.length_take] at this
            simp only [List.length_nil] at this
            omega) l.length 0 0 (by rw [bkOpens_length]; omega) (by omega) (by omega) k (by omega)
          exact this
      · refine ⟨0, false, fun k hk => ?_, fun k hk => ?_⟩
        · unfold spec_MostOpen.f
          rw [good_eq l (by omega) k (by omega)]
          simp [h]
        · simp [impl_MostOpen.f, impl_areEntries.f, h]
    have hT : ∀ k, K ≤ k → laws_toIntS.f k l = some l := fun k hk => toIntS_eq l (by omega) k (by omega)
    have hE : ∀ k, K ≤ k → laws_eqIntS.f k l l = some true := fun k hk => eqIntS_same l (by omega) k (by omega)
    clear hK
    simp [laws_FnExactMostOpen.f, laws_FnExactMostOpen.j0, hbig, hT, hs, hi, hE]
end Go.Proofs.Ytelnidlfeaihmaa.Pure
