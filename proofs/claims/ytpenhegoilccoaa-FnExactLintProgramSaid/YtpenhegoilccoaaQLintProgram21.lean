/- What the claim FnExactLintProgram rests on, part 21 of 29; the last part proves it: for every input the law answers true, and its arguments read behind the call as before it. No condition. -/
import Derived.ChangeKeysEq
import Derived.Test.YtpenhegoilccoaaQLintProgram20
set_option linter.unusedVariables false
namespace Go.Proofs.Ytpenhegoilccoaa
namespace SX
open Go.RowKit
def tailA (A : Option Addr) (j sz c : Nat) : Option Addr := if c = j then A else A.map fun a => a.add (j * sz)
section
variable {P : Program} {R : Array Oper} {Q : Exit → Act → World → Prop} {n : Nat} {e : Env} {a : Act} {w w0 : World} {Rs : List Asn}
theorem v_dropZ {S : World → Prop} {i d : Nat} {t el : TypeId} {x y : Operand} {ty : TypeId} {A : Option Addr} {m c j sz : Nat} {q : Int} (h : Has n e a) (ho : AtW R i (.slice t x (some y) none none) (some d) ty a)
  (hx : ev e x = some (.slice A m c)) (hy : ev e y = some (.int .i64 q)) (ht : P.underlying t = some (.slice el)) (hs : (P.info? el).map (·.size) = some sz) (hq : q = (j : Int)) (hj : j ≤ m) (hm : m ≤ c) :
  Val P R i a S d (.slice (tailA A j sz c) (m - j) (c - j)) :=
 Val.of_run ho fun o w h1 h2 hS => by
  subst hq
  rw [exec_eq h h1 h2 (by simp [covers, Op.operands, hx, hy, notSelect])]
  obtain ⟨ti, hti, hsz⟩ := Option.map_eq_some_iff.1 hs
  subst hsz
  simp [execOp, opr, evD, hx, hy, Instr.sliceAt, Instr.slice, underlying, ht, Instr.sliceBounds, Instr.sliceBound, asIntOf, sizeOf, typeInfo, hti, tailA]
  exact fun hh => absurd hj (by omega)
theorem o_appT {i d : Nat} {s x : Operand} {t el ty : TypeId} {sz bytes j un c : Nat} {A : Option Addr} {v : Value} {xs ys xs' : List Value} {z : Value} {K : Act → World → Prop} (p q : Nat) (h : Has n e a) (hd : d < n)
    (ho : AtW R i (.call { callee := .builtin .append, args := #[s, x], argTypes := #[t, t] }) (some d) ty a) (hs : ev e s = some v) (hx : ev e x = some (.slice (tailA A j sz c) (un - j) (c - j)))
    (ht : P.underlying t = some (.slice el)) (hinfo : (P.info? el).map (fun i => (i.zero, i.size, i.bytes)) = some (some z, sz, bytes)) (hz : z.cells.size = sz) (hsz : 0 < sz)
    (hS : Sat w0 w Rs) (hp : Rs[p]? = some (SX.row v el sz xs)) (hq : Rs[q]? = some (SX.row (.slice A un c) el sz ys)) (hm : j ≤ un) (h1 : ys.all Value.oneCell' = true) (hlen : xs.length + ys.length ≤ 1000000000) (hby : bytes ≤ 100000 * sz) (hys : xs ++ ys.drop (j * sz) = xs')
    (k : ∀ (z : Sl) w' a', Sat w0 w' (Rs.set p (SX.row (.slice z.A z.n z.c) el sz xs')) → Has n ((d, .slice z.A z.n z.c) :: e) a' → K a' w') : wpOp P R Q i K a w := by
  obtain ⟨i0, hi, hzz⟩ := Option.map_eq_some_iff.1 hinfo
  simp only [Prod.mk.injEq] at hzz
  obtain ⟨hz0, hz1, hz2⟩ := hzz
  have hpl : p < Rs.length := (List.getElem?_eq_some_iff.1 hp).1
  obtain ⟨nx, hown⟩ := hS.row p hp
  obtain ⟨us, g1, g2⟩ := hS.row q hq
  have hxl := hown.1
  rcases g2 with ⟨ev0, hus⟩ | ⟨g, cap, cur, ev0, _, hg, g3, g4, g5, g6⟩
  · simp only [Value.slice.injEq] at ev0
    obtain ⟨rfl, rfl, rfl⟩ := ev0;obtain rfl : j = 0 := by omega
    have hr := run_append_owned_none (P := P) (w := w) 0 t ty el i0 sz ht hi _ _ _ hown
    have hrun : (execOp (evD e) (opr (.call { callee := .builtin .append, args := #[s, x], argTypes := #[t, t] }) ty)).run P w = .ok (.value v) w := by
      simp [execOp, opr, resolve, invoke, builtin, evD, hs, hx, hr, tailA]
    obtain ⟨A2, nn, cc, rfl⟩ : ∃ A nn cc, v = .slice A nn cc := by
      rcases hown.2 with ⟨rfl, hn0⟩ | ⟨g, cap, cur, rfl, _⟩
      · exact ⟨none, 0, 0, rfl⟩
      · exact ⟨_, _, cap, rfl⟩
    have hy0 : ys = [] := by
      refine List.eq_nil_of_length_eq_zero ?_;rw [g1, hus, Nat.zero_mul]
    subst hy0;refine o_val h hd ho (by simp [covers, Op.operands, Call.operands, hs, hx, notSelect]) hrun fun a' ha => k ⟨A2, nn, cc⟩ w a' ?_ ha
    have h7 : Rs.set p (SX.row (.slice A2 nn cc) el sz xs') = Rs := by
      refine List.ext_getElem? fun j => ?_
      by_cases hj : p = j
      · subst hj; rw [List.getElem?_set_self hpl, hp, ← hys]; simp
      · rw [List.getElem?_set_ne hj]
    show Sat w0 w (Rs.set p (SX.row (.slice A2 nn cc) el sz xs'))
    rw [h7]; exact hS
  · simp only [Value.slice.injEq] at ev0
    obtain ⟨rfl, rfl, rfl⟩ := ev0;have hle : j * sz ≤ un * sz := Nat.mul_le_mul_right _ hm;have hyl : ys.length = un * sz := g1;have hl : (ys.drop (j * sz)).length = (un - j) * sz := by rw [List.length_drop, hyl, Nat.sub_mul]
    obtain ⟨ad, hA, hcells⟩ : ∃ ad : Addr, tailA (some ⟨g, 0, none⟩) j sz c = some ad ∧ ∀ o u, (ys.drop (j * sz))[o]? = some u → w.cell? (ad.add o) = some u := by
      by_cases hc : c = j
      · refine ⟨⟨g, 0, none⟩, by unfold tailA; rw [if_pos hc], fun o u hu => ?_⟩
        have h9 := (List.getElem?_eq_some_iff.1 hu).1;rw [hl, show un - j = 0 by omega, Nat.zero_mul] at h9
        omega
      · refine ⟨⟨g, 0 + j * sz, none⟩, by unfold tailA; rw [if_neg hc]; simp [add0], fun o u hu => ?_⟩
        rw [add0, Nat.zero_add, cell_of_row w g (j * sz + o) cur el (0, 0) hg, ← Array.getElem?_toList];rw [List.getElem?_drop] at hu;rw [← g6, List.getElem?_take] at hu
        split at hu
        · exact hu
        · cases hu
    have hm1 : un ≤ 1000000000 := Nat.le_trans (Nat.le_mul_of_pos_right _ hsz) (by omega);have hm2 : nx ≤ 1000000000 := Nat.le_trans (Nat.le_mul_of_pos_right _ hsz) (by omega)
    have hbytes : (nx + (un - j)) * bytes ≤ 140737488355328 := by
      have h2 : (nx + (un - j)) * bytes ≤ (nx + (un - j)) * (100000 * sz) := Nat.mul_le_mul_left _ hby;have h3 : (nx + (un - j)) * (100000 * sz) = 100000 * ((nx + (un - j)) * sz) := by rw [Nat.mul_left_comm]
      have h4 : (nx + (un - j)) * sz = nx * sz + (un - j) * sz := Nat.add_mul ..;have h5 : (un - j) * sz ≤ un * sz := Nat.mul_le_mul_right _ (Nat.sub_le ..)
      omega
    have h1' : ∀ u ∈ ys.drop (j * sz), u.oneCell' = true := fun u hu => List.all_eq_true.1 h1 u (List.mem_of_mem_drop hu);have hx' : ev e x = some (.slice (some ad) (un - j) (c - j)) := by rw [hx, hA]
    obtain ⟨v', w', hr, h2, h3, h4, h5⟩ := run_append_own_at (P := P) w 0 t ty el i0 z sz bytes ht hi hz0 hz1 hz2 hz hsz v nx xs hown ad (un - j) (c - j) (ys.drop (j * sz)) hl hcells h1' (by simp only [maxLen]; omega) hbytes (Nat.zero_le _)
    have hrun : (execOp (evD e) (opr (.call { callee := .builtin .append, args := #[s, x], argTypes := #[t, t] }) ty)).run P w = .ok (.value v') w' := by
      simp [execOp, opr, resolve, invoke, builtin, evD, hs, hx', hr]
    have hS' : Sat w0 w' (Rs.set p (SX.row v' el sz xs')) := by
      refine hS.upd hp _ h3.os h3.tape h3.output h3.size fun F hF => ⟨fun k => v'.ownBlock = some k, ⟨fun _ => Iff.rfl, _, by rw [← hys]; exact h2⟩, fun k hk => ?_, fun k hk hF' => h3.block k hk fun e => hF' ((hF.1 k).2 e.symm)⟩
      rcases h5 with h5 | h5
      · exact .inl ((hF.1 k).2 (by rw [← h5]; exact hk))
      · rw [h5] at hk
        injection hk with hk
        exact .inr (by omega)
    obtain ⟨A2, nn, cc, rfl⟩ : ∃ A nn cc, v' = .slice A nn cc := by
      rcases h2.2 with ⟨rfl, hn0⟩ | ⟨g, cap, cur, rfl, _⟩
      · exact ⟨none, 0, 0, rfl⟩
      · exact ⟨_, _, cap, rfl⟩
    exact o_val h hd ho (by simp [covers, Op.operands, Call.operands, hs, hx, notSelect]) hrun fun a' ha => k ⟨A2, nn, cc⟩ w' a' hS' ha
end
end SX
end Go.Proofs.Ytpenhegoilccoaa
