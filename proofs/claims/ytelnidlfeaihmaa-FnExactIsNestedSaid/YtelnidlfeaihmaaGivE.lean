/- The reference's small functions on entries, as steps over separate pieces of memory. -/
import Derived.Test.YtelnidlfeaihmaaGx1
import Derived.Test.YtelnidlfeaihmaaGx2
import Derived.Test.YtelnidlfeaihmaaGx1
import Derived.Test.YtelnidlfeaihmaaGx9
import Derived.Test.YtelnidlfeaihmaaSXr
namespace Go.Proofs.Ytelnidlfeaihmaa.G
open Go.RowKit Go.Proofs.YtelnidlfeaihmaaW.PrintWords Go.Proofs.YtelnidlfeaihmaaW.PrintLast Go.Proofs.YtelnidlfeaihmaaW.PrintMore Go.Proofs.Ytelnidlfeaihmaa.SX
set_option linter.unusedVariables false
set_option linter.unusedSimpArgs false
theorem w64 {x : Int} (h0 : -9223372036854775808 ≤ x) (h1 : x ≤ 9223372036854775807) : wrap64 x = x := by unfold wrap64; omega
theorem rd_nat (l : List Int) (i : Nat) : rd l (i : Int) = l.getD i 0 := by simp [rd]
theorem rd_get {l : List Int} {i : Nat} (h : i < l.length) : rd l (i : Int) = l[i] := by simp [rd, List.getD, h]
theorem has_l0 (l : List Int) (x : Int) (hlen : l.length ≤ 1000000) : ∀ d i, i + d = l.length → ∀ k, d < k → spec_l1Has.l0 k l x (i : Int) = some ((l.drop i).contains x) := by
  intro d
  induction d with
  | zero =>
    intro i hi k hk
    obtain ⟨k, rfl⟩ : ∃ m, k = m + 1 := ⟨k - 1, by omega⟩
    have : i = l.length := by omega
    subst this
    simp only [spec_l1Has.l0]
    rw [if_neg (by omega), List.drop_length]
    rfl
  | succ d ih =>
    intro i hi k hk
    obtain ⟨k, rfl⟩ : ∃ m, k = m + 1 := ⟨k - 1, by omega⟩
    have hlt : i < l.length := by omega
    simp only [spec_l1Has.l0]
    rw [if_pos (by omega), if_pos (by omega), rd_get hlt, List.drop_eq_getElem_cons hlt, List.contains_cons]
    by_cases hx : l[i] = x
    · rw [if_pos hx, hx]; simp
    · rw [if_neg hx, w64 (by omega) (by omega)]
      have := ih (i + 1) (by omega) k (by omega)
      rw [show ((i : Int) + 1) = ((i + 1 : Nat) : Int) from rfl, this]
      congr 1
      have : (x == l[i]) = false := by simp; exact fun e => hx e.symm
      rw [this, Bool.false_or]
theorem has_f (l : List Int) (x : Int) (hlen : l.length ≤ 1000000) (k : Nat) (hk : l.length < k) : spec_l1Has.f k l x = some (l.contains x) := by
  have := has_l0 l x hlen l.length 0 (by omega) k hk
  simpa [spec_l1Has.f] using this
theorem drop_l0 (l : List Int) (x : Int) (hlen : l.length ≤ 1000000) : ∀ d i (ys : List Int), i + d = l.length → ys.length ≤ i → ∀ k, d < k → spec_l7Drop.l0 k l x ys (i : Int) = some (ys ++ (l.drop i).filter (fun y => y != x)) := by
  intro d
  induction d with
  | zero =>
    intro i ys hi hy k hk
    obtain ⟨k, rfl⟩ : ∃ m, k = m + 1 := ⟨k - 1, by omega⟩
    have : i = l.length := by omega
    subst this
    simp only [spec_l7Drop.l0]
    rw [if_neg (by omega), List.drop_length]
    simp
  | succ d ih =>
    intro i ys hi hy k hk
    obtain ⟨k, rfl⟩ : ∃ m, k = m + 1 := ⟨k - 1, by omega⟩
    have hlt : i < l.length := by omega
    simp only [spec_l7Drop.l0]
    rw [if_pos (by omega), if_pos (by omega), rd_get hlt, List.drop_eq_getElem_cons hlt, w64 (by omega) (by omega), show ((i : Int) + 1) = ((i + 1 : Nat) : Int) from rfl]
    by_cases hx : l[i] = x
    · rw [if_pos hx, ih (i + 1) ys (by omega) (by omega) k (by omega), List.filter_cons_of_neg (by simp [hx])]
    · rw [if_neg hx, if_pos (by omega), ih (i + 1) (ys ++ [l[i]]) (by omega) (by simp; omega) k (by omega), List.filter_cons_of_pos (by simpa using hx)]
      simp
theorem drop_f (l : List Int) (x : Int) (hlen : l.length ≤ 1000000) (k : Nat) (hk : l.length < k) : spec_l7Drop.f k l x = some (l.filter (fun y => y != x)) := by
  have := drop_l0 l x hlen l.length 0 [] (by omega) (by simp) k hk
  simpa [spec_l7Drop.f] using this
section
variable {w0 w : World} {Rs : List Asn} {s : Sl} {l : List Int}
theorem most_sat (hS : Sat w0 w Rs) (x y : Int) : Calls Try.prog 73 #[.int .i64 x, .int .i64 y] w (Ret fun r w' => r = .int .i64 (max x y) ∧ Sat w0 w' Rs) := by
  have h := spec_l1Most.calls x y (max x y) w (by unfold spec_l1Most.f; split <;> (congr 1; omega))
  refine h.mono ?_
  rintro e w' ⟨rfl, hd⟩
  obtain ⟨q, rfl⟩ := hd.out
  exact ⟨rfl, hS.grows ⟨rfl, rfl, rfl, Nat.le_refl _, fun _ _ => rfl⟩⟩
theorem has_sat (hS : Sat w0 w Rs) (hr : RdI w s l) (hlen : l.length ≤ 1000000) (x : Int) :
    Calls Try.prog 80 #[s.v, .int .i64 x] w (Ret fun r w' => r = .bool (l.contains x) ∧ Sat w0 w' Rs) := by
  have h := spec_l1Has.calls (l.length + 1) s.A s.c l x (l.contains x) w hr.rd hr.le (has_f l x hlen _ (by omega))
  rw [← hr.len] at h
  refine h.mono ?_
  rintro e w' ⟨rfl, hd⟩
  obtain ⟨q, rfl⟩ := hd.out
  exact ⟨rfl, hS.grows ⟨rfl, rfl, rfl, Nat.le_refl _, fun _ _ => rfl⟩⟩
theorem drop_sat (hS : Sat w0 w Rs) (hr : RdI w s l) (hlen : l.length ≤ 1000000) (x : Int) :
    Calls Try.prog 92 #[s.v, .int .i64 x] w (Ret fun r w' => ∃ s' : Sl, r = s'.v ∧ Sat w0 w' (SX.row s'.v 3 1 (SX.encI (l.filter (fun y => y != x))) :: Rs)) := by
  have h := spec_l7Drop.calls (l.length + 1) s.A s.c l x _ w hr.rd hr.le (drop_f l x hlen _ (by omega))
  rw [← hr.len] at h
  refine h.mono ?_
  rintro e w' ⟨v, rfl, hR, hb⟩
  have ho := Kd.own_of_R hR
  obtain ⟨s', rfl, _⟩ := ownsRow_sl ho
  exact ⟨s', rfl, hS.made hb ho⟩
end
end Go.Proofs.Ytelnidlfeaihmaa.G
