/- Whether a program is well formed, as the reference reckons it. Plain lists and numbers. -/
import Derived.Test.YtmeejdeafmgdnaaGivA
import Derived.Test.YtmeejdeafmgdnaaGx3
namespace Go.Proofs.Ytmeejdeafmgdnaa.G
open Go.RowKit Go.Proofs.YtmeejdeafmgdnaaW.PrintWords Go.Proofs.YtmeejdeafmgdnaaW.PrintLast Go.Proofs.YtmeejdeafmgdnaaW.PrintMore
set_option linter.unusedVariables false
set_option linter.unusedSimpArgs false
section
theorem w64b {x : Int} (h0 : -9223372036854775808 ≤ x) (h1 : x ≤ 9223372036854775807) : wrap64 x = x := by unfold wrap64; omega
theorem and_bind (x y : Bool) : ((some x).bind fun t => if t = true then some y else some false) = some (x && y) := by cases x <;> rfl
theorem and_if (x : Bool) (y : Bool) : (if x = true then some y else some false) = some (x && y) := by cases x <;> rfl
theorem bind_id (x : Bool) : ((some x).bind fun t => some t) = some x := rfl
theorem beqz (b : Int) : (b == 0) = decide (b = 0) := by by_cases h : b = 0 <;> simp [h]
theorem l1In_f (a lo hi : Int) : spec_l1In.f a lo hi = some (decide (lo ≤ a) && decide (a ≤ hi)) := by
  unfold spec_l1In.f
  by_cases h : lo ≤ a
  · rw [if_pos h]; simp [h]
  · rw [if_neg (by omega)]; simp [h]
theorem l2Reg_f (a : Int) : spec_l2Reg.f a = some (regB a) := by simp [spec_l2Reg.f, l1In_f, regB]
theorem l2Number_f (a : Int) : spec_l2Number.f a = some (numB a) := by simp [spec_l2Number.f, l1In_f, numB]
theorem l2Function_f (l : List (List S76)) (hl : l.length ≤ 1048576) (a : Int) : spec_l2Function.f l a = some (decide (0 ≤ a) && decide (a ≤ (l.length : Int) - 1)) := by
  simp [spec_l2Function.f, l1In_f, w64b (x := (l.length : Int) - 1) (by omega) (by omega)]
theorem l2Step_f (l : List (List S76)) (hl : l.length ≤ 1048576) (kd a b : Int) (k : Nat) (hk : 2 ≤ k) : spec_l2Step.f k l kd a b = some (stepB (l.length : Int) kd a b) := by
  obtain ⟨k, rfl⟩ : ∃ m, k = m + 2 := ⟨k - 2, by omega⟩
  by_cases h : 1 ≤ kd ∧ kd ≤ 13
  · have hd : kd = 1 ∨ kd = 2 ∨ kd = 3 ∨ kd = 4 ∨ kd = 5 ∨ kd = 6 ∨ kd = 7 ∨ kd = 8 ∨ kd = 9 ∨ kd = 10 ∨ kd = 11 ∨ kd = 12 ∨ kd = 13 := by omega
    rcases hd with rfl | rfl | rfl | rfl | rfl | rfl | rfl | rfl | rfl | rfl | rfl | rfl | rfl <;>
      simp only [spec_l2Step.f, spec_l2Step.j0, spec_l2Step.j1, l1In_f, l2Reg_f, l2Number_f, l2Function_f l hl, Option.bind_some, and_if, stepB] <;> simp [beqz] <;> (try (by_cases h0 : a = 0 <;> simp [h0]))
  · have h1 : kd ≠ 1 ∧ kd ≠ 2 ∧ kd ≠ 3 ∧ kd ≠ 4 ∧ kd ≠ 5 ∧ kd ≠ 6 ∧ kd ≠ 7 ∧ kd ≠ 8 ∧ kd ≠ 9 ∧ kd ≠ 10 ∧ kd ≠ 11 ∧ kd ≠ 12 ∧ kd ≠ 13 := by omega
    obtain ⟨h1, h2, h3, h4, h5, h6, h7, h8, h9, h10, h11, h12, h13⟩ := h1
    have hs : stepB (l.length : Int) kd a b = false := by
      unfold stepB
      have : (decide (1 ≤ kd) && decide (kd ≤ 13)) = false := by
        by_cases h0 : 1 ≤ kd
        · have : ¬ kd ≤ 13 := fun h' => h ⟨h0, h'⟩
          simp [this]
        · simp [h0]
      rw [this, Bool.false_and, Bool.false_and]
    rw [hs]
    simp [spec_l2Step.f, spec_l2Step.j0, spec_l2Step.j1, h1, h2, h3, h4, h5, h6, h7, h8, h9, h10, h11, h12, h13]
def stB (l : List (List S76)) (s : S76) : Bool := stepB (l.length : Int) s.f0 s.f1 s.f2
def totL {α : Type} : List (List α) → Nat
  | [] => 0
  | b :: l => b.length + totL l
theorem l2Program_l1 (l : List (List S76)) (hl : l.length ≤ 1048576) (f : Nat) (hf : f < l.length) (hb : (l[f]).length ≤ 8) (M : Nat) (R : Bool) (hR : ∀ k, M < k → spec_l2Program.l0 k ((f : Int) + 1) l = some R) :
    ∀ d i, i + d = (l[f]).length → ∀ k, M + d + 4 < k → spec_l2Program.l1 k (f : Int) (i : Int) l = some (((l[f]).drop i).all (stB l) && R) := by
  have hrd : rd_L4 l (f : Int) = l[f] := by simp [rd_L4, List.getD, hf]
  intro d
  induction d with
  | zero =>
    intro i hi k hk
    obtain ⟨k, rfl⟩ : ∃ m, k = m + 1 := ⟨k - 1, by omega⟩
    have : i = (l[f]).length := by omega
    subst this
    simp only [spec_l2Program.l1, hrd]
    rw [if_pos (by omega), if_pos (by omega), if_neg (by omega), w64b (by omega) (by omega), hR k (by omega), List.drop_length]
    simp
  | succ d ih =>
    intro i hi k hk
    obtain ⟨k, rfl⟩ : ∃ m, k = m + 1 := ⟨k - 1, by omega⟩
    have hlt : i < (l[f]).length := by omega
    have hrt : rd_T76 l[f] (i : Int) = (l[f])[i] := by simp [rd_T76, List.getD, hlt]
    simp only [spec_l2Program.l1, hrd, hrt]
    rw [if_pos (by omega), if_pos (by omega), if_pos (by omega), if_pos (by omega), l2Step_f l hl _ _ _ k (by omega), List.drop_eq_getElem_cons hlt, List.all_cons]
    simp only [Option.bind_some]
    rw [w64b (by omega) (by omega)]
    have := ih (i + 1) (by omega) k (by omega)
    rw [show ((i : Int) + 1) = ((i + 1 : Nat) : Int) from rfl, this, and_if, Bool.and_assoc]
    rfl
theorem l2Program_l0 (l : List (List S76)) (hl : l.length ≤ 6) : ∀ d f, f + d = l.length → ∀ k, d * 16 < k → spec_l2Program.l0 k (f : Int) l = some ((l.drop f).all (bodyB (l.length : Int))) := by
  intro d
  induction d with
  | zero =>
    intro f hf k hk
    obtain ⟨k, rfl⟩ : ∃ m, k = m + 1 := ⟨k - 1, by omega⟩
    have : f = l.length := by omega
    subst this
    simp only [spec_l2Program.l0]
    rw [if_neg (by omega), List.drop_length]
    rfl
  | succ d ih =>
    intro f hf k hk
    obtain ⟨k, rfl⟩ : ∃ m, k = m + 1 := ⟨k - 1, by omega⟩
    have hlt : f < l.length := by omega
    have hrd : rd_L4 l (f : Int) = l[f] := by simp [rd_L4, List.getD, hlt]
    simp only [spec_l2Program.l0, hrd]
    rw [if_pos (by omega), if_pos (by omega), List.drop_eq_getElem_cons hlt, List.all_cons]
    by_cases hb : ((l[f]).length : Int) > 8
    · rw [if_pos hb]
      have : bodyB (l.length : Int) l[f] = false := by unfold bodyB; simp; intro h; omega
      rw [this, Bool.false_and]
    · rw [if_neg hb]
      have := l2Program_l1 l (by omega) f hlt (by omega) (d * 16) _ (fun k hk => by have := ih (f + 1) (by omega) k hk; rw [show ((f : Int) + 1) = ((f + 1 : Nat) : Int) from rfl]; exact this) (l[f]).length 0 (by omega) k (by omega)
      rw [show (0 : Int) = ((0 : Nat) : Int) from rfl, this, List.drop_zero]
      have e : bodyB (l.length : Int) l[f] = (l[f]).all (stB l) := by unfold bodyB; rw [decide_eq_true (by omega : (l[f]).length ≤ 8), Bool.true_and]; rfl
      rw [e]
theorem l2Program_f (l : List (List S76)) (hl : l.length ≤ 1048576) (k : Nat) (hk : 100 < k) : spec_l2Program.f k l = some (programB l) := by
  unfold spec_l2Program.f programB
  rw [l1In_f]
  simp only [Option.bind_some]
  by_cases h : 1 ≤ l.length ∧ l.length ≤ 6
  · have e1 : (decide ((1 : Int) ≤ (l.length : Int)) && decide ((l.length : Int) ≤ 6)) = true := by simp; omega
    have e2 : (decide (1 ≤ l.length) && decide (l.length ≤ 6)) = true := by simp; omega
    rw [e1, e2, if_pos rfl, Bool.true_and]
    have := l2Program_l0 l h.2 l.length 0 (by omega) k (by omega)
    rw [show (0 : Int) = ((0 : Nat) : Int) from rfl, this, List.drop_zero]
  · have e1 : (decide ((1 : Int) ≤ (l.length : Int)) && decide ((l.length : Int) ≤ 6)) = false := by simp; omega
    have e2 : (decide (1 ≤ l.length) && decide (l.length ≤ 6)) = false := by simp; omega
    rw [e1, e2, if_neg (by decide), Bool.false_and]
end
end Go.Proofs.Ytmeejdeafmgdnaa.G
