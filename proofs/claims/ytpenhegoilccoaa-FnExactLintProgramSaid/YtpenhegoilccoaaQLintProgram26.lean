/- What the claim FnExactLintProgram rests on, part 26 of 29; the last part proves it: for every input the law answers true, and its arguments read behind the call as before it. No condition. -/
import Derived.Test.YtpenhegoilccoaaQLintProgram2
import Derived.Test.YtpenhegoilccoaaQLintProgram21
import Derived.Test.YtpenhegoilccoaaQLintProgram24
set_option linter.unusedVariables false
namespace Go.Proofs.Ytpenhegoilccoaa.SX
open Go.RowKit
structure TailOf (z o : Sl) (n j : Nat) : Prop where
 n_ : z.n = n - j
 c_ : z.n ≤ z.c
 at_ : j < n → z.A = some ⟨bk o, j, none⟩
 ad : z.A = none ∨ ∃ b off, z.A = some ⟨b, off, none⟩
section
variable {w0 w : World} {Rs : List Asn} {T : TypeId} {z o : Sl} {l : List Int} {j : Nat}
theorem Sat.tail0 (hS : Sat w0 w Rs) (i : Nat) (hi : Rs[i]? = some (SX.row o.v T 1 (encI l))) : TailOf o o l.length 0 := by
  have hr := hS.rdRow i hi
  refine ⟨by rw [hr.len]; omega, by rw [hr.len]; exact hr.le, fun h => by rw [hS.rowA i hi (by rw [encI_length]; exact h)], ?_⟩
  obtain ⟨n, _, h⟩ := hS.row i hi
  rcases h with ⟨h, _⟩ | ⟨g, cap, cur, h, _⟩
  · simp only [Sl.v, Value.slice.injEq] at h
    exact .inl h.1
  · simp only [Sl.v, Value.slice.injEq] at h
    exact .inr ⟨g, 0, h.1⟩
theorem TailOf.next {n : Nat} (h : TailOf z o n j) (hj : j < n) : TailOf ⟨tailA z.A 1 1 z.c, z.n - 1, z.c - 1⟩ o n (j + 1) := by
  have h1 := h.n_
  have h2 := h.c_
  have h3 := h.at_ hj
  refine ⟨by show z.n - 1 = _; omega, by show z.n - 1 ≤ z.c - 1; omega, fun hk => ?_, ?_⟩
  · show tailA z.A 1 1 z.c = _
    unfold tailA;rw [if_neg (by omega), h3]
    rfl
  · show tailA z.A 1 1 z.c = none ∨ _
    unfold tailA;rw [h3]
    split
    · exact .inr ⟨_, _, rfl⟩
    · exact .inr ⟨_, _, rfl⟩
theorem TailOf.bk_ {n : Nat} (h : TailOf z o n j) (hj : j < n) : bk z = bk o ∧ of_ z = j := by
 unfold bk of_
 rw [h.at_ hj]
 exact ⟨rfl, rfl⟩
theorem TailOf.zA {n : Nat} (h : TailOf z o n j) (hj : j < n) : z.A = some ⟨bk z, of_ z, none⟩ := by
 rw [(h.bk_ hj).1, (h.bk_ hj).2]
 exact h.at_ hj
theorem cell_row (hS : Sat w0 w Rs) (i : Nat) (hi : Rs[i]? = some (SX.row o.v T 1 (encI l))) {k : Nat} (hk : k < l.length) : w.cell? ⟨bk o, k, none⟩ = some (.int .i64 (l.getD k 0)) := by
 have h1 := (hS.rdRow i hi).at_ hk
 have h2 := hS.rowA i hi (by rw [encI_length]; omega)
 have h3 : of_ o = 0 := by unfold of_; rw [h2]; rfl
 have := h1.2
 rwa [h3, Nat.zero_add] at this
theorem tail_cell {x : Int} (h : TailOf z o l.length j) (hS : Sat w0 w Rs) (i : Nat) (hi : Rs[i]? = some (SX.row o.v T 1 (encI l))) (hx : l[j]? = some x) : w.cell? ⟨bk z, of_ z + 0 * 1, none⟩ = some (.int .i64 x) := by
 have hj : j < l.length := (List.getElem?_eq_some_iff.1 hx).1
 rw [(h.bk_ hj).1, (h.bk_ hj).2, Nat.zero_mul, Nat.add_zero, cell_row hS i hi hj]
 simp [List.getD, hx]
theorem cloneT_sat {A9 : Option Addr} {n9 c9 : Nat} (h : TailOf ⟨A9, n9, c9⟩ o l.length j) (hj : j ≤ l.length) (hS : Sat w0 w (SX.row o.v T 1 (encI l) :: Rs)) (hl : l.length ≤ 1000000) :
    Calls Try.prog 154 #[.slice A9 n9 c9] w (Ret fun r w' => ∃ o2 : Sl, r = .slice o2.A o2.n o2.c ∧ Sat w0 w' (SX.row o2.v 3 1 (encI (l.drop j)) :: SX.row o.v T 1 (encI l) :: Rs)) := by
  have hn : n9 = l.length - j := h.n_
  rcases (show A9 = none ∨ ∃ b off, A9 = some ⟨b, off, none⟩ from h.ad) with ha | ⟨b, off, ha⟩
  · rw [ha]
    refine Calls.mono (Any.slices_Clone_int_nil asc15 _ _ w) fun e w' h5 => ?_;obtain ⟨rfl, rfl⟩ := h5;have hle : l.length ≤ j := Nat.le_of_not_lt fun hlt => by have h9 : A9 = some ⟨bk o, j, none⟩ := h.at_ hlt; rw [h9] at ha; cases ha
    refine ⟨⟨none, 0, 0⟩, rfl, ?_⟩;rw [List.drop_eq_nil_of_le hle];exact Sat.nilRow hS
  · rw [ha]
    have hd : (l.drop j).length = n9 := by rw [List.length_drop]; omega
    refine Calls.mono (Any.slices_Clone_int asc15 b off n9 c9 (l.drop j) w (by omega) (by omega) fun k hk => ?_) fun e w' h5 => ?_
    · rw [List.length_drop] at hk
      have h6 : A9 = some ⟨bk o, j, none⟩ := h.at_ (by omega);rw [ha] at h6;simp only [Option.some.injEq, Addr.mk.injEq, and_true] at h6;rw [h6.1, h6.2, cell_row hS 0 rfl (k := j + k) (by omega)]
      simp [List.getD, List.getElem?_drop]
    · obtain ⟨v', rfl, h6, h7, h8⟩ := h5
      rw [List.take_of_length_le (by omega)] at h6
      obtain ⟨A2, nn, cc, rfl⟩ : ∃ A nn cc, v' = .slice A nn cc := by
        rcases h6.2 with ⟨rfl, _⟩ | ⟨g, cap, cur, rfl, _⟩
        · exact ⟨none, 0, 0, rfl⟩
        · exact ⟨_, _, cap, rfl⟩
      exact ⟨⟨A2, nn, cc⟩, rfl, hS.made h8 h6⟩
end
end Go.Proofs.Ytpenhegoilccoaa.SX
