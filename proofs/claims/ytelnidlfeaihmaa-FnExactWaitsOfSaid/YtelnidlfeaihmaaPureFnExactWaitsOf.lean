/- WaitsOf: for every policy the law answers true. -/
import Derived.Test.YtelnidlfeaihmaaPFnExactWaitsOfx2
namespace Go.Proofs.Ytelnidlfeaihmaa.PureFnExactWaitsOf
open Go.RowKit Go.Proofs.Ytelnidlfeaihmaa.PFnExactWaitsOf Go.Proofs.YtelnidlfeaihmaaW.PrintWords Go.Proofs.YtelnidlfeaihmaaW.PrintLast Go.Proofs.YtelnidlfeaihmaaW.PrintMore
theorem w64 {x : Int} (h0 : -9223372036854775808 ≤ x) (h1 : x ≤ 9223372036854775807) : wrap64 x = x := by unfold wrap64; omega
theorem rd_nat (l : List Int) (i : Nat) : rd l (i : Int) = l.getD i 0 := by simp [rd]

theorem eqIntS_l0 (l : List Int) (hl : l.length ≤ 4611686018427387904) : ∀ (d k i : Nat), l.length - i = d → d < k → laws_eqIntS.l0 k l l (i : Int) = some true := by
  intro d
  induction d with
  | zero =>
    intro k i hd hk
    obtain ⟨k, rfl⟩ : ∃ m, k = m + 1 := ⟨k - 1, by omega⟩
    simp only [laws_eqIntS.l0]
    rw [if_neg (by omega)]
  | succ d ih =>
    intro k i hd hk
    obtain ⟨k, rfl⟩ : ∃ m, k = m + 1 := ⟨k - 1, by omega⟩
    simp only [laws_eqIntS.l0]
    rw [if_pos (by omega), if_pos (by omega), if_pos (by omega), if_pos trivial, w64 (by omega) (by omega)]
    exact ih k (i + 1) (by omega) (by omega)
theorem eqIntS_same (l : List Int) (hl : l.length ≤ 4611686018427387904) (k : Nat) (hk : l.length < k) : laws_eqIntS.f k l l = some true := by
  simp only [laws_eqIntS.f]
  rw [if_pos trivial]
  exact eqIntS_l0 l hl l.length k 0 (by omega) hk

theorem markIntS_l0 : ∀ (d k i : Nat) (l : List Int) (x : Int), l.length ≤ 4611686018427387904 → l.length - i = d → d < k → 0 ≤ x → x + (d : Int) ≤ 4611686018427387904 →
    ∃ l', laws_markIntS.l0 k l x (i : Int) = some (x + (d : Int), l') ∧ l'.length = l.length ∧ (∀ j, j < i → l'[j]? = l[j]?) ∧ ∀ j, i ≤ j → j < l.length → l'[j]? = some (x + ((j - i : Nat) : Int)) := by
  intro d
  induction d with
  | zero =>
    intro k i l x hl hd hk h0 h1
    obtain ⟨k, rfl⟩ : ∃ m, k = m + 1 := ⟨k - 1, by omega⟩
    refine ⟨l, ?_, rfl, fun _ _ => rfl, fun j hj hj' => by omega⟩
    simp only [laws_markIntS.l0]
    rw [if_neg (by omega)]
    simp
  | succ d ih =>
    intro k i l x hl hd hk h0 h1
    obtain ⟨k, rfl⟩ : ∃ m, k = m + 1 := ⟨k - 1, by omega⟩
    have hll : (l.set i x).length = l.length := by simp
    obtain ⟨l', h2, h3, h4, h5⟩ := ih k (i + 1) (l.set i x) (x + 1) (by omega) (by omega) (by omega) (by omega) (by omega)
    refine ⟨l', ?_, by omega, fun j hj => ?_, fun j hj hj' => ?_⟩
    · simp only [laws_markIntS.l0]
      rw [if_pos (by omega), if_pos (by omega), w64 (by omega) (by omega), w64 (by omega) (by omega)]
      have e : ((i : Int)).toNat = i := by omega
      have e2 : x + ((d + 1 : Nat) : Int) = x + 1 + (d : Int) := by omega
      rw [e, e2]
      exact h2
    · rw [h4 j (by omega), List.getElem?_set_ne (by omega)]
    · by_cases hji : j = i
      · subst hji
        rw [h4 j (by omega), List.getElem?_set_self (by omega)]
        simp
      · rw [h5 j (by omega) (by omega)]
        congr 1
        omega
/-- What marking leaves: the numbers from x on. -/
theorem markIntS_all (l : List Int) (x : Int) (hl : l.length ≤ 1152921504606846976) (h0 : 0 ≤ x) (h1 : x ≤ 1152921504606846976) (k : Nat) (hk : l.length < k) :
    ∃ l', laws_markIntS.f k l x = some (x + (l.length : Int), l') ∧ l'.length = l.length ∧ ∀ j, j < l.length → l'[j]? = some (x + (j : Int)) := by
  obtain ⟨l', h2, h3, _, h5⟩ := markIntS_l0 l.length k 0 l x (by omega) (by omega) hk h0 (by omega)
  exact ⟨l', h2, h3, fun j hj => by simpa using h5 j (Nat.zero_le _) hj⟩

theorem heldIntS_l0 (l : List Int) : ∀ (d k i : Nat) (x : Int), l.length ≤ 4611686018427387904 → l.length - i = d → d < k → 0 ≤ x → x + (d : Int) ≤ 4611686018427387904 →
    (∀ j, i ≤ j → j < l.length → l[j]? = some (x + ((j - i : Nat) : Int))) → laws_heldIntS.l0 k l x (i : Int) = some (x + (d : Int)) := by
  intro d
  induction d with
  | zero =>
    intro k i x hl hd hk h0 h1 h
    obtain ⟨k, rfl⟩ : ∃ m, k = m + 1 := ⟨k - 1, by omega⟩
    simp only [laws_heldIntS.l0]
    rw [if_neg (by omega)]
    simp
  | succ d ih =>
    intro k i x hl hd hk h0 h1 h
    obtain ⟨k, rfl⟩ : ∃ m, k = m + 1 := ⟨k - 1, by omega⟩
    have hi := h i (Nat.le_refl _) (by omega)
    have hrd : rd l (i : Int) = x := by
      rw [rd_nat, List.getD_eq_getElem?_getD, hi]
      simp
    simp only [laws_heldIntS.l0]
    rw [if_pos (by omega), if_pos (by omega), if_pos hrd, w64 (by omega) (by omega), w64 (by omega) (by omega)]
    have e2 : x + ((d + 1 : Nat) : Int) = x + 1 + (d : Int) := by omega
    rw [e2]
    refine ih k (i + 1) (x + 1) hl (by omega) (by omega) (by omega) (by omega) fun j hj hj' => ?_
    rw [h j (by omega) hj']
    congr 1
    omega
theorem heldIntS_all (l : List Int) (x : Int) (hl : l.length ≤ 1152921504606846976) (h0 : 0 ≤ x) (h1 : x ≤ 1152921504606846976) (k : Nat) (hk : l.length < k)
    (h : ∀ j, j < l.length → l[j]? = some (x + (j : Int))) : laws_heldIntS.f k l x = some (x + (l.length : Int)) :=
  heldIntS_l0 l l.length k 0 x (by omega) (by omega) hk h0 (by omega) (fun j _ hj => by simpa using h j hj)

theorem in_some (x lo hi : Int) : impl_in.f x lo hi = some (decide (lo ≤ x ∧ x ≤ hi)) := by
  unfold impl_in.f
  by_cases h : lo ≤ x <;> simp [h]
theorem l1In_some (x lo hi : Int) : spec_l1In.f x lo hi = some (decide (lo ≤ x ∧ x ≤ hi)) := by
  unfold spec_l1In.f
  by_cases h : lo ≤ x <;> simp [h]
def good (t w f m : Int) : Prop := 1 ≤ t ∧ t ≤ 20 ∧ 0 ≤ w ∧ w ≤ 10000 ∧ 0 ≤ m ∧ m ≤ 10000 ∧ 1 ≤ f ∧ f ≤ 6
instance (t w f m : Int) : Decidable (good t w f m) := by unfold good; infer_instance
theorem isPolicy_some (t w f m : Int) : impl_IsPolicy.f t w f m = some (decide (good t w f m)) := by
  unfold impl_IsPolicy.f
  simp only [in_some, Option.bind_some, decide_eq_true_eq]
  by_cases hg : good t w f m
  · obtain ⟨g1, g2, g3, g4, g5, g6, g7, g8⟩ := id hg
    rw [if_pos ⟨g1, g2⟩, if_pos ⟨g3, g4⟩, if_pos ⟨g5, g6⟩, decide_eq_true hg, decide_eq_true ⟨g7, g8⟩]
  · rw [decide_eq_false hg]
    split
    · rename_i h1
      split
      · rename_i h2
        split
        · rename_i h3
          rw [decide_eq_false fun h4 => hg ⟨h1.1, h1.2, h2.1, h2.2, h3.1, h3.2, h4.1, h4.2⟩]
        · rfl
      · rfl
    · rfl
theorem l8Policy_some (t w f m : Int) : spec_l8Policy.f t w f m = some (decide (good t w f m)) := by
  rw [← isPolicy_some]
  unfold spec_l8Policy.f impl_IsPolicy.f
  simp only [in_some, l1In_some]
def waits : Nat → List Int → Int → Int → Int → List Int
  | 0, xs, _, _, _ => xs
  | d + 1, xs, wt, f, m => waits d (xs ++ [wt]) (if wt * f < m then wt * f else m) f m
theorem waits_length : ∀ (d : Nat) (xs : List Int) (wt f m : Int), (waits d xs wt f m).length = xs.length + d := by
  intro d
  induction d with
  | zero => intro xs wt f m; rfl
  | succ d ih =>
    intro xs wt f m
    simp only [waits]
    rw [ih]
    simp
    omega
theorem spec_loop (t w0 f m : Int) (hg : good t w0 f m) : ∀ (d k : Nat) (xs : List Int) (wt i : Int), 0 ≤ wt → wt ≤ 10000 → 1 ≤ i → i + (d : Int) = t → xs.length ≤ 20 → xs.length + d ≤ 20 → d < k →
    spec_l8Waits.l0 k xs wt i t w0 f m = some (waits d xs wt f m) := by
  obtain ⟨g1, g2, g3, g4, g5, g6, g7, g8⟩ := hg
  intro d
  induction d with
  | zero =>
    intro k xs wt i h0 h1 h2 h3 h4 h5 hk
    obtain ⟨k, rfl⟩ : ∃ m, k = m + 1 := ⟨k - 1, by omega⟩
    simp only [spec_l8Waits.l0]
    rw [if_neg (by omega)]
    rfl
  | succ d ih =>
    intro k xs wt i h0 h1 h2 h3 h4 h5 hk
    obtain ⟨k, rfl⟩ : ∃ m, k = m + 1 := ⟨k - 1, by omega⟩
    have hb : 0 ≤ wt * f := Int.mul_nonneg h0 (by omega)
    have hb2 : wt * f ≤ 10000 * 6 := Int.mul_le_mul h1 g8 (by omega) (by omega)
    simp only [spec_l8Waits.l0]
    rw [if_pos (by omega), if_pos (by omega), w64 (by omega) (by omega), w64 (by omega) (by omega)]
    simp only [spec_l1Least.f, waits]
    by_cases hlt : wt * f < m
    · rw [if_pos hlt, if_pos hlt]
      simp only [Option.bind_some]
      exact ih k _ _ _ hb (by omega) (by omega) (by omega) (by simp; omega) (by simp; omega) (by omega)
    · rw [if_neg hlt, if_neg hlt]
      simp only [Option.bind_some]
      exact ih k _ _ _ g5 g6 (by omega) (by omega) (by simp; omega) (by simp; omega) (by omega)
theorem impl_loop (t w0 f m : Int) (hg : good t w0 f m) : ∀ (d k : Nat) (xs : List Int) (wt i : Int), 0 ≤ wt → wt ≤ 10000 → 0 ≤ i → i + (d : Int) = t - 1 → xs.length ≤ 20 → xs.length + d ≤ 20 → d < k →
    impl_WaitsOf.l0 k xs wt (t - 1) i t w0 f m = some (waits d xs wt f m, true) := by
  obtain ⟨g1, g2, g3, g4, g5, g6, g7, g8⟩ := hg
  intro d
  induction d with
  | zero =>
    intro k xs wt i h0 h1 h2 h3 h4 h5 hk
    obtain ⟨k, rfl⟩ : ∃ m, k = m + 1 := ⟨k - 1, by omega⟩
    simp only [impl_WaitsOf.l0]
    rw [if_neg (by omega)]
    rfl
  | succ d ih =>
    intro k xs wt i h0 h1 h2 h3 h4 h5 hk
    obtain ⟨k, rfl⟩ : ∃ m, k = m + 1 := ⟨k - 1, by omega⟩
    have hb : 0 ≤ wt * f := Int.mul_nonneg h0 (by omega)
    have hb2 : wt * f ≤ 10000 * 6 := Int.mul_le_mul h1 g8 (by omega) (by omega)
    simp only [impl_WaitsOf.l0]
    rw [if_pos (by omega), if_pos (by omega), w64 (by omega) (by omega), w64 (by omega) (by omega)]
    simp only [waits]
    have hmn : mn (wt * f) m = if wt * f < m then wt * f else m := by
      unfold mn
      split <;> split <;> omega
    rw [hmn]
    by_cases hlt : wt * f < m
    · rw [if_pos hlt]
      exact ih k _ _ _ hb (by omega) (by omega) (by omega) (by simp; omega) (by simp; omega) (by omega)
    · rw [if_neg hlt]
      exact ih k _ _ _ g5 g6 (by omega) (by omega) (by simp; omega) (by simp; omega) (by omega)
/-- Both come to one list, or to none. -/
theorem both (t w f m : Int) : ∃ l b, l.length ≤ 20 ∧ ∀ k, 30 < k → spec_WaitsOf.f k t w f m = some (l, b) ∧ impl_WaitsOf.f k t w f m = some (l, b) := by
  by_cases hg : good t w f m
  · have hg' := hg
    obtain ⟨g1, g2, g3, g4, g5, g6, g7, g8⟩ := hg'
    refine ⟨waits (t - 1).toNat [] (if w < m then w else m) f m, true, by rw [waits_length]; simp; omega, fun k hk => ⟨?_, ?_⟩⟩
    · unfold spec_WaitsOf.f spec_l8Waits.f
      rw [l8Policy_some]
      simp only [Option.bind_some, decide_eq_true_eq]
      rw [if_pos hg]
      have h : spec_l1Least.f w m = some (if w < m then w else m) := by unfold spec_l1Least.f; split <;> rfl
      rw [h]
      simp only [Option.bind_some]
      rw [spec_loop t w f m hg (t - 1).toNat k [] (if w < m then w else m) 1 (by split <;> omega) (by split <;> omega) (by omega) (by omega) (by simp) (by simp; omega) (by omega)]
      rfl
    · unfold impl_WaitsOf.f
      rw [isPolicy_some]
      simp only [Option.bind_some, decide_eq_true_eq]
      rw [if_pos hg]
      have h : mn w m = if w < m then w else m := by unfold mn; split <;> split <;> omega
      rw [h, w64 (by omega) (by omega)]
      exact impl_loop t w f m hg (t - 1).toNat k [] (if w < m then w else m) 0 (by split <;> omega) (by split <;> omega) (by omega) (by omega) (by simp) (by simp; omega) (by omega)
  · refine ⟨[], false, by simp, fun k _ => ⟨?_, ?_⟩⟩
    · unfold spec_WaitsOf.f
      rw [l8Policy_some]
      simp only [Option.bind_some, decide_eq_true_eq]
      rw [if_neg hg]
    · unfold impl_WaitsOf.f
      rw [isPolicy_some]
      simp only [Option.bind_some, decide_eq_true_eq]
      rw [if_neg hg]
theorem law (t w f m : Int) : laws_FnExactWaitsOf.f 40 t w f m = some true := by
  obtain ⟨l, b, hl, h⟩ := both t w f m
  have key : ∀ k, 30 < k → laws_FnExactWaitsOf.j0 (k + 2) l b l (b != b) t w f m = some true := by
    intro k hk
    obtain ⟨l', m1, m2, m3⟩ := markIntS_all l 1 (by omega) (by omega) (by omega) (k + 1) (by omega)
    have hh := fun q (hq : 30 < q) => heldIntS_all l' 1 (by omega) (by omega) (by omega) q (by omega) (fun j hj => m3 j (by omega))
    simp only [laws_FnExactWaitsOf.j0, bne_self_eq_false, Bool.false_eq_true, if_false]
    rw [m1]
    simp only [Option.bind_some]
    rw [hh (k + 1) (by omega)]
    simp only [Option.bind_some]
    rw [if_neg (by omega), m2, if_pos rfl]
    simp only [laws_toPolicy.f, Option.bind_some]
    rw [(h (k + 1) (by omega)).2]
    simp only [Option.bind_some]
    rw [eqIntS_same l (by omega) (k + 1) (by omega)]
    simp only [Option.bind_some, if_true, laws_FnExactWaitsOf.j1, bne_self_eq_false, Bool.false_eq_true, if_false]
    rw [hh k hk]
    simp only [Option.bind_some]
    rw [if_neg (by omega), m2, if_pos rfl]
  unfold laws_FnExactWaitsOf.f
  simp only [laws_toPolicy.f, Option.bind_some]
  rw [(h 40 (by omega)).1]
  simp only [Option.bind_some]
  rw [(h 40 (by omega)).2]
  simp only [Option.bind_some]
  rw [eqIntS_same l (by omega) 40 (by omega)]
  simp only [Option.bind_some, if_true]
  exact key 38 (by omega)
end Go.Proofs.Ytelnidlfeaihmaa.PureFnExactWaitsOf
