/- Programs that are weighed, compared, marked and held: what these come to. Plain lists and numbers. -/
import Derived.Test.YtmeejdeafmgdnaaGivS
import Derived.Test.YtmeejdeafmgdnaaGx11
import Derived.Test.YtmeejdeafmgdnaaGx11
import Derived.Test.YtmeejdeafmgdnaaGx7
import Derived.Test.YtmeejdeafmgdnaaGx1
namespace Go.Proofs.Ytmeejdeafmgdnaa.G
open Go.RowKit Go.Proofs.YtmeejdeafmgdnaaW.PrintWords Go.Proofs.YtmeejdeafmgdnaaW.PrintLast Go.Proofs.YtmeejdeafmgdnaaW.PrintMore
set_option linter.unusedVariables false
set_option linter.unusedSimpArgs false
abbrev ST := S76
abbrev LT := S126
/-- How many steps there are. -/
def tot {α : Type} : List (List α) → Nat
  | [] => 0
  | b :: l => b.length + tot l
theorem tot_append {α : Type} (l m : List (List α)) : tot (l ++ m) = tot l + tot m := by
  induction l with
  | nil => simp [tot]
  | cons b l ih => simp [tot, ih]; omega
theorem tot_mem {α : Type} {b : List α} {l : List (List α)} (h : b ∈ l) : b.length ≤ tot l := by
  induction l with
  | nil => cases h
  | cons c l ih =>
    rcases List.mem_cons.1 h with rfl | h
    · simp [tot]
    · have := ih h; simp [tot]; omega
theorem tot_map {α β : Type} (f : α → β) (l : List (List α)) : tot (l.map (·.map f)) = tot l := by
  induction l with
  | nil => rfl
  | cons b l ih => simp [tot, ih]
/-- What is left of a size. -/
def szL (left : Int) : List (List LT) → Int
  | [] => left
  | b :: l => if left - (b.length : Int) < 0 then -1 else szL (left - (b.length : Int)) l
def szP (l : List (List LT)) (left : Int) : Int := if left - (l.length : Int) < 0 then -1 else szL (left - (l.length : Int)) l
theorem szL_ok (l : List (List LT)) : ∀ left, 0 ≤ left → 0 ≤ szL left l → (tot l : Int) + szL left l = left := by
  induction l with
  | nil => intro left h0 h; simp [tot, szL]
  | cons b l ih =>
    intro left h0 h
    simp only [szL] at h ⊢
    by_cases hb : left - (b.length : Int) < 0
    · rw [if_pos hb] at h; omega
    · rw [if_neg hb] at h ⊢
      have := ih _ (by omega) h
      simp only [tot]
      omega
theorem szP_ok (l : List (List LT)) (left : Int) (h : 0 ≤ szP l left) : (l.length : Int) + tot l + szP l left = left := by
  unfold szP at h ⊢
  by_cases hb : left - (l.length : Int) < 0
  · rw [if_pos hb] at h; omega
  · rw [if_neg hb] at h ⊢
    have := szL_ok l _ (by omega) h
    omega
theorem szL_le (l : List (List LT)) : ∀ left, 0 ≤ left → szL left l ≤ left ∧ -1 ≤ szL left l := by
  induction l with
  | nil => intro left h; simp [szL]; omega
  | cons b l ih =>
    intro left h
    simp only [szL]
    by_cases hb : left - (b.length : Int) < 0
    · rw [if_pos hb]; omega
    · rw [if_neg hb]; have := ih (left - (b.length : Int)) (by omega); omega
theorem szP_le (l : List (List LT)) (left : Int) (h : 0 ≤ left) : szP l left ≤ left ∧ -1 ≤ szP l left := by
  unfold szP
  by_cases hb : left - (l.length : Int) < 0
  · rw [if_pos hb]; omega
  · rw [if_neg hb]; have := szL_le l (left - (l.length : Int)) (by omega); omega
theorem szStepSS_l0 (l : List (List LT)) (hl : ∀ b ∈ l, b.length ≤ 9223372036854775807) (hn : l.length ≤ 1048576) : ∀ d i, i + d = l.length → ∀ left : Int, 0 ≤ left → left ≤ 1048576 → ∀ k, d < k → laws_szStepSS.l0 k l left (i : Int) = some (szL left (l.drop i)) := by
  intro d
  induction d with
  | zero =>
    intro i hi left h0 h1 k hk
    obtain ⟨k, rfl⟩ : ∃ m, k = m + 1 := ⟨k - 1, by omega⟩
    have : i = l.length := by omega
    subst this
    simp only [laws_szStepSS.l0]
    rw [if_neg (by omega), List.drop_length]
    rfl
  | succ d ih =>
    intro i hi left h0 h1 k hk
    obtain ⟨k, rfl⟩ : ∃ m, k = m + 1 := ⟨k - 1, by omega⟩
    have hlt : i < l.length := by omega
    have hb := hl l[i] (List.getElem_mem _)
    have hrd : rd_L2 l (i : Int) = l[i] := by simp [rd_L2, List.getD, hlt]
    simp only [laws_szStepSS.l0]
    rw [if_pos (by omega), if_pos (by omega), hrd, List.drop_eq_getElem_cons hlt]
    simp only [szL, laws_szStepS.f]
    rw [w64 (x := left - _) (by omega) (by omega)]
    by_cases hc : left - ((l[i]).length : Int) < 0
    · rw [if_pos hc, if_pos hc]; simp
    · rw [if_neg hc, if_neg hc]
      simp only [Option.bind_some]
      rw [if_neg hc, w64 (by omega) (by omega), show ((i : Int) + 1) = ((i + 1 : Nat) : Int) from rfl]
      exact ih (i + 1) (by omega) _ (by omega) (by omega) k (by omega)
theorem szProgram_f (l : List (List LT)) (hl : ∀ b ∈ l, b.length ≤ 9223372036854775807) (hn : l.length ≤ 9223372036854775807) (left : Int) (h0 : 0 ≤ left) (h1 : left ≤ 1048576) (k : Nat) (hk : 1048576 < k) : laws_szProgram.f k l left = some (szP l left) := by
  have key : laws_szStepSS.f k l left = some (szP l left) := by
    unfold laws_szStepSS.f szP
    rw [w64 (by omega) (by omega)]
    by_cases hc : left - (l.length : Int) < 0
    · rw [if_pos hc, if_pos hc]
    · rw [if_neg hc, if_neg hc]
      have := szStepSS_l0 l hl (by omega) l.length 0 (by omega) (left - (l.length : Int)) (by omega) (by omega) k (by omega)
      simpa using this
  unfold laws_szProgram.f
  rw [key]
  have := szP_le l left h0
  simp only [Option.bind_some]
  by_cases hc : szP l left < 0
  · rw [if_pos hc]; congr 1; omega
  · rw [if_neg hc]
/-! ### equal -/
theorem eqStepS_l0 (l : List ST) (hn : l.length ≤ 1048576) : ∀ d i, i + d = l.length → ∀ k, d < k → laws_eqStepS.l0 k l l (i : Int) = some true := by
  intro d
  induction d with
  | zero =>
    intro i hi k hk
    obtain ⟨k, rfl⟩ : ∃ m, k = m + 1 := ⟨k - 1, by omega⟩
    simp only [laws_eqStepS.l0]
    rw [if_neg (by omega)]
  | succ d ih =>
    intro i hi k hk
    obtain ⟨k, rfl⟩ : ∃ m, k = m + 1 := ⟨k - 1, by omega⟩
    simp only [laws_eqStepS.l0, laws_eqStep.f]
    rw [if_pos (by omega), if_pos (by omega), if_pos (by omega)]
    simp only [if_true, Option.bind_some]
    rw [w64 (by omega) (by omega), show ((i : Int) + 1) = ((i + 1 : Nat) : Int) from rfl]
    exact ih (i + 1) (by omega) k (by omega)
theorem eqStepS_f (l : List ST) (hn : l.length ≤ 1048576) (k : Nat) (hk : 1048576 < k) : laws_eqStepS.f k l l = some true := by
  unfold laws_eqStepS.f
  rw [if_pos rfl]
  exact eqStepS_l0 l hn l.length 0 (by omega) k (by omega)
theorem eqStepSS_l0 (l : List (List ST)) (hl : ∀ b ∈ l, b.length ≤ 1048576) (hn : l.length ≤ 1048576) : ∀ d i, i + d = l.length → ∀ k, 1048577 + d < k → laws_eqStepSS.l0 k l l (i : Int) = some true := by
  intro d
  induction d with
  | zero =>
    intro i hi k hk
    obtain ⟨k, rfl⟩ : ∃ m, k = m + 1 := ⟨k - 1, by omega⟩
    simp only [laws_eqStepSS.l0]
    rw [if_neg (by omega)]
  | succ d ih =>
    intro i hi k hk
    obtain ⟨k, rfl⟩ : ∃ m, k = m + 1 := ⟨k - 1, by omega⟩
    have hlt : i < l.length := by omega
    have hrd : rd_L4 l (i : Int) = l[i] := by simp [rd_L4, List.getD, hlt]
    simp only [laws_eqStepSS.l0]
    rw [if_pos (by omega), if_pos (by omega), if_pos (by omega), hrd, eqStepS_f _ (hl _ (List.getElem_mem _)) k (by omega)]
    simp only [if_true, Option.bind_some]
    rw [w64 (by omega) (by omega), show ((i : Int) + 1) = ((i + 1 : Nat) : Int) from rfl]
    exact ih (i + 1) (by omega) k (by omega)
theorem eqProgram_f (l : List (List ST)) (hl : ∀ b ∈ l, b.length ≤ 1048576) (hn : l.length ≤ 1048576) (k : Nat) (hk : 2097153 < k) : laws_eqProgram.f k l l = some true := by
  unfold laws_eqProgram.f laws_eqStepSS.f
  rw [if_pos rfl]
  have := eqStepSS_l0 l hl hn l.length 0 (by omega) k (by omega)
  simp only [Int.natCast_zero] at this
  rw [show (0 : Int) = ((0 : Nat) : Int) from rfl, eqStepSS_l0 l hl hn l.length 0 (by omega) k (by omega)]
  rfl
/-! ### marked, held -/
def mkS (a : Int) (n : Nat) : List ST := (List.range n).map fun (j : Nat) => ⟨a + 3 * (j : Int), a + 3 * (j : Int) + 1, a + 3 * (j : Int) + 2⟩
theorem mkS_length (a : Int) (n : Nat) : (mkS a n).length = n := by simp [mkS]
theorem mkS_succ (a : Int) (n : Nat) : mkS a (n + 1) = mkS a n ++ [⟨a + 3 * (n : Int), a + 3 * (n : Int) + 1, a + 3 * (n : Int) + 2⟩] := by simp [mkS, List.range_succ]
theorem set_mid {α : Type} (P : List α) (x y : α) (Q : List α) : (P ++ x :: Q).set P.length y = P ++ y :: Q := by simp
theorem rd_mid (P : List ST) (x : ST) (Q : List ST) : rd_T76 (P ++ x :: Q) (P.length : Int) = x := by simp [rd_T76, List.getD]
theorem markStepS_l0 (l : List ST) (a : Int) (h0 : 0 ≤ a) (hn : l.length ≤ 4194304) (ha : a ≤ 1073741824) : ∀ d i, i + d = l.length → ∀ k, d < k → laws_markStepS.l0 k (mkS a i ++ l.drop i) (a + 3 * (i : Int)) (i : Int) = some (a + 3 * (l.length : Int), mkS a l.length) := by
  intro d
  induction d with
  | zero =>
    intro i hi k hk
    obtain ⟨k, rfl⟩ : ∃ m, k = m + 1 := ⟨k - 1, by omega⟩
    have : i = l.length := by omega
    subst this
    simp only [laws_markStepS.l0]
    rw [if_neg (by simp [mkS_length]), List.drop_length, List.append_nil]
  | succ d ih =>
    intro i hi k hk
    obtain ⟨k, rfl⟩ : ∃ m, k = m + 1 := ⟨k - 1, by omega⟩
    have hlt : i < l.length := by omega
    simp only [laws_markStepS.l0]
    rw [if_pos (by simp [mkS_length]; omega), if_pos (by omega), List.drop_eq_getElem_cons hlt]
    simp only [Option.bind_some]
    have hi2 : (i : Int).toNat = (mkS a i).length := by rw [mkS_length]; omega
    have hi3 : (i : Int) = ((mkS a i).length : Int) := by rw [mkS_length]
    rw [hi2, set_mid, set_mid, set_mid]
    rw [w64 (x := a + 3 * (i : Int) + 1) (by omega) (by omega), w64 (x := a + 3 * (i : Int) + 1 + 1) (by omega) (by omega), w64 (x := a + 3 * (i : Int) + 1 + 1 + 1) (by omega) (by omega), w64 (x := (i : Int) + 1) (by omega) (by omega)]
    have key := ih (i + 1) (by omega) k (by omega)
    rw [mkS_succ] at key
    rw [hi3]
    simp only [rd_mid]
    rw [← hi3]
    rw [List.append_assoc, List.cons_append, List.nil_append] at key
    rw [show a + 3 * (i : Int) + 1 + 1 + 1 = a + 3 * ((i + 1 : Nat) : Int) by omega, show (i : Int) + 1 = ((i + 1 : Nat) : Int) from rfl, show a + 3 * (i : Int) + 1 + 1 = a + 3 * (i : Int) + 2 by omega]
    exact key
theorem markStepS_f (l : List ST) (a : Int) (h0 : 0 ≤ a) (hn : l.length ≤ 4194304) (ha : a ≤ 1073741824) (k : Nat) (hk : l.length < k) : laws_markStepS.f k l a = some (a + 3 * (l.length : Int), mkS a l.length) := by
  have := markStepS_l0 l a h0 hn ha l.length 0 (by omega) k (by omega)
  unfold laws_markStepS.f
  simpa [mkS] using this
theorem heldStepS_l0 (a : Int) (n : Nat) (h0 : 0 ≤ a) (hn : n ≤ 4194304) (ha : a ≤ 1073741824) : ∀ d i, i + d = n → ∀ k, d < k → laws_heldStepS.l0 k (mkS a n) (a + 3 * (i : Int)) (i : Int) = some (a + 3 * (n : Int)) := by
  intro d
  induction d with
  | zero =>
    intro i hi k hk
    obtain ⟨k, rfl⟩ : ∃ m, k = m + 1 := ⟨k - 1, by omega⟩
    have : i = n := by omega
    subst this
    simp only [laws_heldStepS.l0]
    rw [if_neg (by simp [mkS_length])]
  | succ d ih =>
    intro i hi k hk
    obtain ⟨k, rfl⟩ : ∃ m, k = m + 1 := ⟨k - 1, by omega⟩
    have hrd : rd_T76 (mkS a n) (i : Int) = ⟨a + 3 * (i : Int), a + 3 * (i : Int) + 1, a + 3 * (i : Int) + 2⟩ := by
      simp [rd_T76, mkS, List.getD, show i < n by omega]
    simp only [laws_heldStepS.l0, hrd]
    rw [w64 (x := a + 3 * (i : Int) + 1) (by omega) (by omega), w64 (x := a + 3 * (i : Int) + 1 + 1) (by omega) (by omega), w64 (x := a + 3 * (i : Int) + 1 + 1 + 1) (by omega) (by omega), w64 (x := (i : Int) + 1) (by omega) (by omega)]
    rw [if_pos (by rw [mkS_length]; omega), if_pos (by omega)]
    simp only [if_true]
    rw [if_pos (by omega), show a + 3 * (i : Int) + 1 + 1 + 1 = a + 3 * ((i + 1 : Nat) : Int) by omega, show (i : Int) + 1 = ((i + 1 : Nat) : Int) from rfl]
    exact ih (i + 1) (by omega) k (by omega)
theorem heldStepS_f (a : Int) (n : Nat) (h0 : 0 ≤ a) (hn : n ≤ 4194304) (ha : a ≤ 1073741824) (k : Nat) (hk : n < k) : laws_heldStepS.f k (mkS a n) a = some (a + 3 * (n : Int)) := by
  have := heldStepS_l0 a n h0 hn ha n 0 (by omega) k (by omega)
  unfold laws_heldStepS.f
  simpa using this
def mkSS (a : Int) : List (List ST) → List (List ST)
  | [] => []
  | b :: l => mkS a b.length :: mkSS (a + 3 * (b.length : Int)) l
theorem mkSS_length (a : Int) (l : List (List ST)) : (mkSS a l).length = l.length := by
  induction l generalizing a with
  | nil => rfl
  | cons b l ih => simp [mkSS, ih]
theorem mkSS_snoc (a : Int) (l : List (List ST)) (b : List ST) : mkSS a (l ++ [b]) = mkSS a l ++ [mkS (a + 3 * (tot l : Int)) b.length] := by
  induction l generalizing a with
  | nil => simp [mkSS, tot]
  | cons c l ih =>
    simp only [List.cons_append, mkSS, ih, tot]
    congr 4
    omega
theorem heldStepSS_l0 (l : List (List ST)) : ∀ (P : List (List ST)) (a : Int), 0 ≤ a → P.length + l.length ≤ 4194304 → a + 3 * (tot l : Int) ≤ 1073741824 → tot l ≤ 4194304 → ∀ k, 4194304 + l.length < k → laws_heldStepSS.l0 k (P ++ mkSS a l) a (P.length : Int) = some (a + 3 * (tot l : Int)) := by
  induction l with
  | nil =>
    intro P a h0 hn ha ht k hk
    obtain ⟨k, rfl⟩ : ∃ m, k = m + 1 := ⟨k - 1, by omega⟩
    simp only [laws_heldStepSS.l0, mkSS, List.append_nil, tot]
    rw [if_neg (by omega)]
    simp
  | cons b l ih =>
    intro P a h0 hn ha ht k hk
    obtain ⟨k, rfl⟩ : ∃ m, k = m + 1 := ⟨k - 1, by omega⟩
    simp only [tot, List.length_cons] at hn ha ht hk ⊢
    have hrd : rd_L4 (P ++ mkSS a (b :: l)) (P.length : Int) = mkS a b.length := by simp [rd_L4, mkSS, List.getD]
    simp only [laws_heldStepSS.l0, hrd]
    rw [if_pos (by simp [mkSS]; omega), if_pos (by omega), heldStepS_f a b.length h0 (by omega) (by omega) k (by omega)]
    simp only [Option.bind_some]
    rw [if_neg (by omega), w64 (by omega) (by omega)]
    have := ih (P ++ [mkS a b.length]) (a + 3 * (b.length : Int)) (by omega) (by simp; omega) (by omega) (by omega) k (by omega)
    rw [List.append_assoc] at this
    simp only [List.singleton_append, List.length_append, List.length_singleton, Int.natCast_add, Int.natCast_one] at this
    simp only [mkSS]
    rw [this]
    congr 1
    omega
theorem heldProgram_f (l : List (List ST)) (hn : l.length ≤ 4194304) (ht : tot l ≤ 4194304) (k : Nat) (hk : 8388608 < k) : laws_heldProgram.f k (mkSS 1 l) 1 = some (1 + 3 * (tot l : Int)) := by
  have := heldStepSS_l0 l [] 1 (by omega) (by simp; omega) (by omega) ht k (by omega)
  unfold laws_heldProgram.f laws_heldStepSS.f
  simp only [List.nil_append, List.length_nil, Int.natCast_zero] at this
  rw [this]
  simp only [Option.bind_some]
  rw [if_neg (by omega)]
end Go.Proofs.Ytmeejdeafmgdnaa.G
