/- Lists of whole numbers that are copied, compared, marked: what these come to; and what the reference and the program make of entries. Plain lists and numbers. -/
import Derived.Test.YtelnidlfeaihmaaGx1
import Derived.Test.YtelnidlfeaihmaaGx1
import Derived.Test.YtelnidlfeaihmaaGx1
import Derived.Test.YtelnidlfeaihmaaGx14
import Derived.Test.YtelnidlfeaihmaaGx3
import Derived.Test.YtelnidlfeaihmaaGivF
namespace Go.Proofs.Ytelnidlfeaihmaa.G
open Go.RowKit Go.Proofs.YtelnidlfeaihmaaW.PrintWords Go.Proofs.YtelnidlfeaihmaaW.PrintLast Go.Proofs.YtelnidlfeaihmaaW.PrintMore
set_option linter.unusedVariables false
set_option linter.unusedSimpArgs false

theorem eqIntS_l0 (l : List Int) (hl : l.length ≤ 4611686018427387904) : ∀ (d k i : Nat), l.length - i = d → d < k → laws_eqIntS.l0 k l l (i : Int) = some true := by
  intro d
  induction d with
  | zero =>
    intro k i hd hk
    obtain ⟨k, rfl⟩ : ∃ m, k = m + 1 := ⟨k - 1, by omega⟩
    simp only [laws_eqIntS.l0]
    rw [if_neg (by omega)]
  | succ d ih =>
    intro k i hd hk
    obtain ⟨k, rfl⟩ : ∃ m, k = m + 1 := ⟨k - 1, by omega⟩
    simp only [laws_eqIntS.l0]
    rw [if_pos (by omega), if_pos (by omega), if_pos (by omega), if_pos trivial, w64 (by omega) (by omega)]
    exact ih k (i + 1) (by omega) (by omega)
theorem eqIntS_same (l : List Int) (hl : l.length ≤ 4611686018427387904) (k : Nat) (hk : l.length < k) : laws_eqIntS.f k l l = some true := by
  simp only [laws_eqIntS.f]
  rw [if_pos trivial]
  exact eqIntS_l0 l hl l.length k 0 (by omega) hk

theorem markIntS_l0 : ∀ (d k i : Nat) (l : List Int) (x : Int), l.length ≤ 4611686018427387904 → l.length - i = d → d < k → 0 ≤ x → x + (d : Int) ≤ 4611686018427387904 →
    ∃ l', laws_markIntS.l0 k l x (i : Int) = some (x + (d : Int), l') ∧ l'.length = l.length ∧ (∀ j, j < i → l'[j]? = l[j]?) ∧ ∀ j, i ≤ j → j < l.length → l'[j]? = some (x + ((j - i : Nat) : Int)) := by
  intro d
  induction d with
  | zero =>
    intro k i l x hl hd hk h0 h1
    obtain ⟨k, rfl⟩ : ∃ m, k = m + 1 := ⟨k - 1, by omega⟩
    refine ⟨l, ?_, rfl, fun _ _ => rfl, fun j hj hj' => by omega⟩
    simp only [laws_markIntS.l0]
    rw [if_neg (by omega)]
    simp
  | succ d ih =>
    intro k i l x hl hd hk h0 h1
    obtain ⟨k, rfl⟩ : ∃ m, k = m + 1 := ⟨k - 1, by omega⟩
    have hll : (l.set i x).length = l.length := by simp
    obtain ⟨l', h2, h3, h4, h5⟩ := ih k (i + 1) (l.set i x) (x + 1) (by omega) (by omega) (by omega) (by omega) (by omega)
    refine ⟨l', ?_, by omega, fun j hj => ?_, fun j hj hj' => ?_⟩
    · simp only [laws_markIntS.l0]
      rw [if_pos (by omega), if_pos (by omega), w64 (by omega) (by omega), w64 (by omega) (by omega)]
      have e : ((i : Int)).toNat = i := by omega
      have e2 : x + ((d + 1 : Nat) : Int) = x + 1 + (d : Int) := by omega
      rw [e, e2]
      exact h2
    · rw [h4 j (by omega), List.getElem?_set_ne (by omega)]
    · by_cases hji : j = i
      · subst hji
        rw [h4 j (by omega), List.getElem?_set_self (by omega)]
        simp
      · rw [h5 j (by omega) (by omega)]
        congr 1
        omega
/-- What marking leaves: the numbers from x on. -/
theorem markIntS_all (l : List Int) (x : Int) (hl : l.length ≤ 1152921504606846976) (h0 : 0 ≤ x) (h1 : x ≤ 1152921504606846976) (k : Nat) (hk : l.length < k) :
    ∃ l', laws_markIntS.f k l x = some (x + (l.length : Int), l') ∧ l'.length = l.length ∧ ∀ j, j < l.length → l'[j]? = some (x + (j : Int)) := by
  obtain ⟨l', h2, h3, _, h5⟩ := markIntS_l0 l.length k 0 l x (by omega) (by omega) hk h0 (by omega)
  exact ⟨l', h2, h3, fun j hj => by simpa using h5 j (Nat.zero_le _) hj⟩

theorem heldIntS_l0 (l : List Int) : ∀ (d k i : Nat) (x : Int), l.length ≤ 4611686018427387904 → l.length - i = d → d < k → 0 ≤ x → x + (d : Int) ≤ 4611686018427387904 →
    (∀ j, i ≤ j → j < l.length → l[j]? = some (x + ((j - i : Nat) : Int))) → laws_heldIntS.l0 k l x (i : Int) = some (x + (d : Int)) := by
  intro d
  induction d with
  | zero =>
    intro k i x hl hd hk h0 h1 h
    obtain ⟨k, rfl⟩ : ∃ m, k = m + 1 := ⟨k - 1, by omega⟩
    simp only [laws_heldIntS.l0]
    rw [if_neg (by omega)]
    simp
  | succ d ih =>
    intro k i x hl hd hk h0 h1 h
    obtain ⟨k, rfl⟩ : ∃ m, k = m + 1 := ⟨k - 1, by omega⟩
    have hi := h i (Nat.le_refl _) (by omega)
    have hrd : rd l (i : Int) = x := by
      rw [rd_nat, List.getD_eq_getElem?_getD, hi]
      simp
    simp only [laws_heldIntS.l0]
    rw [if_pos (by omega), if_pos (by omega), if_pos hrd, w64 (by omega) (by omega), w64 (by omega) (by omega)]
    have e2 : x + ((d + 1 : Nat) : Int) = x + 1 + (d : Int) := by omega
    rw [e2]
    refine ih k (i + 1) (x + 1) hl (by omega) (by omega) (by omega) (by omega) fun j hj hj' => ?_
    rw [h j (by omega) hj']
    congr 1
    omega
theorem heldIntS_all (l : List Int) (x : Int) (hl : l.length ≤ 1152921504606846976) (h0 : 0 ≤ x) (h1 : x ≤ 1152921504606846976) (k : Nat) (hk : l.length < k)
    (h : ∀ j, j < l.length → l[j]? = some (x + (j : Int))) : laws_heldIntS.f k l x = some (x + (l.length : Int)) :=
  heldIntS_l0 l l.length k 0 x (by omega) (by omega) hk h0 (by omega) (fun j _ hj => by simpa using h j hj)

def mk (l : List Int) : List Int := (List.range l.length).map fun (j : Nat) => 1 + (j : Int)
theorem mk_length (l : List Int) : (mk l).length = l.length := by simp [mk]
theorem mk_get (l : List Int) (j : Nat) (h : j < l.length) : (mk l)[j]? = some (1 + (j : Int)) := by simp [mk, h]
theorem markIntS_eq (l : List Int) (hl : l.length ≤ 1152921504606846976) (k : Nat) (hk : l.length < k) : laws_markIntS.f k l 1 = some (1 + (l.length : Int), mk l) := by
  obtain ⟨l', h1, h2, h3⟩ := markIntS_all l 1 hl (by omega) (by omega) k hk
  rw [h1]
  congr 2
  apply List.ext_getElem?
  intro j
  by_cases hj : j < l.length
  · rw [h3 j hj, mk_get l j hj]
  · rw [List.getElem?_eq_none (by omega), List.getElem?_eq_none (by rw [mk_length]; omega)]
theorem heldIntS_eq (l : List Int) (hl : l.length ≤ 1152921504606846976) (k : Nat) (hk : l.length < k) : laws_heldIntS.f k (mk l) 1 = some (1 + (l.length : Int)) := by
  have := heldIntS_all (mk l) 1 (by rw [mk_length]; exact hl) (by omega) (by omega) k (by rw [mk_length]; exact hk) (fun j hj => mk_get l j (by rw [mk_length] at hj; exact hj))
  rwa [mk_length] at this
theorem toIntS_l0 (l : List Int) (hl : l.length ≤ 1048576) : ∀ d i, i + d = l.length → ∀ k, d < k → laws_toIntS.l0 k l (l.take i ++ List.replicate d 0) (i : Int) = some l := by
  intro d
  induction d with
  | zero =>
    intro i hi k hk
    obtain ⟨k, rfl⟩ : ∃ m, k = m + 1 := ⟨k - 1, by omega⟩
    have : i = l.length := by omega
    subst this
    simp only [laws_toIntS.l0]
    rw [if_neg (by omega)]
    simp
  | succ d ih =>
    intro i hi k hk
    obtain ⟨k, rfl⟩ : ∃ m, k = m + 1 := ⟨k - 1, by omega⟩
    have hlt : i < l.length := by omega
    simp only [laws_toIntS.l0]
    rw [if_pos (by omega), if_pos (by omega), if_pos (by simp; omega), rd_get hlt, w64 (by omega) (by omega), show ((i : Int) + 1) = ((i + 1 : Nat) : Int) from rfl]
    have e : (l.take i ++ List.replicate (d + 1) 0).set (i : Int).toNat l[i] = l.take (i + 1) ++ List.replicate d 0 := by
      have h1 : (i : Int).toNat = i := by omega
      have h2 : (l.take i).length = i := by rw [List.length_take]; omega
      rw [h1, List.set_append_right _ _ (by omega), h2, Nat.sub_self, List.replicate_succ, List.set_cons_zero, List.take_succ_eq_append_getElem hlt, List.append_assoc]
      rfl
    rw [e]
    exact ih (i + 1) (by omega) k (by omega)
theorem toIntS_eq (l : List Int) (hl : l.length ≤ 1048576) (k : Nat) (hk : l.length < k) : laws_toIntS.f k l = some l := by
  have := toIntS_l0 l hl l.length 0 (by omega) k hk
  unfold laws_toIntS.f
  rw [if_pos (by omega), if_pos (by omega)]
  simpa using this
theorem l1In_eq (x lo hi : Int) : spec_l1In.f x lo hi = some (decide (lo ≤ x) && decide (x ≤ hi)) := by
  unfold spec_l1In.f
  by_cases h : lo ≤ x <;> simp [h]
theorem good_l0 (l : List Int) (hl : l.length ≤ 1048576) : ∀ d i, i + d = l.length → ∀ k, d < k → spec_l7Good.l0 k l (i : Int) = some ((l.drop i).all entryB && decide (l.length ≤ 60)) := by
  intro d
  induction d with
  | zero =>
    intro i hi k hk
    obtain ⟨k, rfl⟩ : ∃ m, k = m + 1 := ⟨k - 1, by omega⟩
    have : i = l.length := by omega
    subst this
    simp only [spec_l7Good.l0]
    rw [if_neg (by omega), List.drop_length]
    simp
    omega
  | succ d ih =>
    intro i hi k hk
    obtain ⟨k, rfl⟩ : ∃ m, k = m + 1 := ⟨k - 1, by omega⟩
    have hlt : i < l.length := by omega
    simp only [spec_l7Good.l0]
    rw [if_pos (by omega), if_pos (by omega), rd_get hlt, l1In_eq, List.drop_eq_getElem_cons hlt, List.all_cons, w64 (by omega) (by omega), show ((i : Int) + 1) = ((i + 1 : Nat) : Int) from rfl]
    simp only [Option.bind_some]
    by_cases hx : (decide (-32767 ≤ l[i]) && decide (l[i] ≤ 32767)) = true
    · rw [if_pos hx, ih (i + 1) (by omega) k (by omega)]
      have : entryB l[i] = true := hx
      rw [this, Bool.true_and]
    · rw [if_neg hx]
      have : entryB l[i] = false := Bool.eq_false_iff.2 hx
      rw [this, Bool.false_and, Bool.false_and]
theorem good_eq (l : List Int) (hl : l.length ≤ 1048576) (k : Nat) (hk : l.length < k) : spec_l7Good.f k l = some (entriesB l) := by
  have := good_l0 l hl l.length 0 (by omega) k hk
  unfold spec_l7Good.f
  rw [show (0 : Int) = ((0 : Nat) : Int) from rfl, this, entriesB, Bool.and_comm]
  simp
theorem bkOpens_length (o l : List Int) : (bkOpens o l).length = l.length := by
  induction l generalizing o with
  | nil => rfl
  | cons n l ih => simp [bkOpens, ih]
theorem bkOpens_last (o l : List Int) (h : l ≠ []) : (bkOpens o l)[l.length - 1]? = some (l.foldl bkStep o) := by
  induction l generalizing o with
  | nil => exact absurd rfl h
  | cons n l ih =>
    by_cases hl : l = []
    · subst hl; rfl
    · have := ih (bkStep o n) hl
      have hp : 0 < l.length := List.length_pos_iff.2 hl
      rw [bkOpens, List.length_cons, show l.length + 1 - 1 = (l.length - 1) + 1 from by omega, List.getElem?_cons_succ, this]
      rfl
theorem bkLast_length (o l : List Int) : (l.foldl bkStep o).length ≤ o.length + l.length := by
  induction l generalizing o with
  | nil => simp
  | cons n l ih =>
    have h1 := ih (bkStep o n)
    have h2 : (bkStep o n).length ≤ o.length + 1 := bkStep_length (Nat.le_refl _)
    simp only [List.foldl_cons, List.length_cons]
    omega
theorem bkFaults_length (i : Int) (o l : List Int) : (bkFaults i o l).length ≤ l.length := by
  induction l generalizing i o with
  | nil => simp [bkFaults]
  | cons n l ih =>
    have := ih (i + 1) (bkStep o n)
    rw [bkFaults, List.length_append, List.length_cons]
    split <;> simp <;> omega
theorem left_eq (l : List Int) (h : entriesB l = true) : impl_left.f l = some (l.foldl bkStep []) := by
  have hl := (entriesB_iff.1 h).1
  unfold impl_left.f impl_books.f
  rw [if_pos h]
  simp only [Option.bind_some, bkOpens_length]
  by_cases h0 : l = []
  · subst h0; simp
  · have hp : 0 < l.length := List.length_pos_iff.2 h0
    rw [if_neg (by omega), w64 (by omega) (by omega), if_pos (by omega), if_pos (by omega)]
    have e : rd_L1 (bkOpens [] l) ((l.length : Int) - 1) = l.foldl bkStep [] := by
      have : ((l.length : Int) - 1).toNat = l.length - 1 := by omega
      rw [rd_L1, this, List.getD_eq_getElem?_getD, bkOpens_last [] l h0]
      rfl
    have hb := bkLast_length [] l
    rw [e, slices_Clone_int_int.f, if_pos (by simp at hb; omega)]
    rfl
end Go.Proofs.Ytelnidlfeaihmaa.G
