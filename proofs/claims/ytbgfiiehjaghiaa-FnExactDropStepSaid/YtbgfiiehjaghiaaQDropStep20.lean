/- What the claim FnExactDropStep rests on, part 20 of 23; the last part proves it: for every input the law answers true, and its arguments read behind the call as before it. No condition. -/
import Derived.Laws.AppendOwn
import Derived.Laws.CopyRow
import Derived.Test.YtbgfiiehjaghiaaQDropStep19
set_option linter.unusedSimpArgs false
set_option linter.unusedVariables false
namespace Go.Proofs.Ytbgfiiehjaghiaa.SX
open Go.RowKit
section
variable {P : Program} {R : Array Oper} {Q : Exit → Act → World → Prop} {n : Nat} {e : Env} {a : Act} {w w0 : World} {Rs : List Asn}
theorem o_skipV {i : Nat} {op : Op} {ty : TypeId} {w' : World} {v : Value} {K : Act → World → Prop} (h : Has n e a) (ho : AtW R i op none ty a) (hc : (covers e op && notSelect op) = true)
  (hr : (execOp (evD e) (opr op ty)).run P w = .ok (.value v) w') (k : ∀ a', Has n e a' → K a' w') : wpOp P R Q i K a w := by
 obtain ⟨o, h1, h2, h3, h4, h5⟩ := ho
 unfold wpOp
 rw [h1]
 simp only [h5, if_true]
 left
 unfold Oper.wp
 rw [exec_eq h h2 h4 hc, hr]
 simp only [Oper.upon, h3, Act.put]
 exact k _ h
theorem v_midZ {S : World → Prop} {i d : Nat} {t el : TypeId} {x y y2 : Operand} {ty : TypeId} {A : Option Addr} {m c j j2 sz : Nat} {q q2 : Int} (h : Has n e a) (ho : AtW R i (.slice t x (some y) (some y2) none) (some d) ty a)
  (hx : ev e x = some (.slice A m c)) (hy : ev e y = some (.int .i64 q)) (hy2 : ev e y2 = some (.int .i64 q2)) (ht : P.underlying t = some (.slice el)) (hs : (P.info? el).map (·.size) = some sz) (hq : q = (j : Int)) (hq2 : q2 = (j2 : Int)) (hj : j ≤ j2) (hj2 : j2 ≤ c) (hm : m ≤ c) :
  Val P R i a S d (.slice (tailA A j sz c) (j2 - j) (c - j)) :=
 Val.of_run ho fun o w h1 h2 hS => by
  subst hq; subst hq2
  rw [exec_eq h h1 h2 (by simp [covers, Op.operands, hx, hy, hy2, notSelect])]
  obtain ⟨ti, hti, hsz⟩ := Option.map_eq_some_iff.1 hs
  subst hsz
  simp [execOp, opr, evD, hx, hy, hy2, Instr.sliceAt, Instr.slice, underlying, ht, Instr.sliceBounds, Instr.sliceBound, asIntOf, sizeOf, typeInfo, hti, tailA]
  rw [if_pos hj2, if_pos hj]
theorem v_mid3 {S : World → Prop} {i d : Nat} {t el : TypeId} {x y y2 y3 : Operand} {ty : TypeId} {A : Option Addr} {m c j j2 j3 sz : Nat} {q q2 q3 : Int} (h : Has n e a) (ho : AtW R i (.slice t x (some y) (some y2) (some y3)) (some d) ty a)
  (hx : ev e x = some (.slice A m c)) (hy : ev e y = some (.int .i64 q)) (hy2 : ev e y2 = some (.int .i64 q2)) (hy3 : ev e y3 = some (.int .i64 q3)) (ht : P.underlying t = some (.slice el)) (hs : (P.info? el).map (·.size) = some sz) (hq : q = (j : Int)) (hq2 : q2 = (j2 : Int)) (hq3 : q3 = (j3 : Int)) (hj : j ≤ j2) (hj2 : j2 ≤ j3) (hj3 : j3 ≤ c) (hm : m ≤ c) :
  Val P R i a S d (.slice (tailA A j sz j3) (j2 - j) (j3 - j)) :=
 Val.of_run ho fun o w h1 h2 hS => by
  subst hq; subst hq2; subst hq3
  rw [exec_eq h h1 h2 (by simp [covers, Op.operands, hx, hy, hy2, hy3, notSelect])]
  obtain ⟨ti, hti, hsz⟩ := Option.map_eq_some_iff.1 hs
  subst hsz
  simp [execOp, opr, evD, hx, hy, hy2, hy3, Instr.sliceAt, Instr.slice, underlying, ht, Instr.sliceBounds, Instr.sliceBound, asIntOf, sizeOf, typeInfo, hti, tailA]
  rw [if_pos hj3, if_pos hj2, if_pos hj]
theorem setRow_at {w : World} {g : Nat} {cur cs : Array Value} {el : TypeId} {fz : Nat × Nat} (hg : w.heap[g]? = some (.cells cur el fz)) : (w.setRow g cs).heap[g]? = some (.cells cs el fz) := by
 simp [World.setRow, Array.getElem?_modify, hg]
theorem setRow_other {w : World} {g k : Nat} {cs : Array Value} (hk : g ≠ k) : (w.setRow g cs).heap[k]? = w.heap[k]? := by
 simp [World.setRow, Array.getElem?_modify, hk]
theorem Sat.putRow {p g m n' cap : Nat} {cur cs : Array Value} {el : TypeId} {sz : Nat} {ys ys' : List Value} (hS : Sat w0 w Rs) (hp : Rs[p]? = some (SX.row (.slice (some ⟨g, 0, none⟩) m cap) el sz ys)) (hg : w.heap[g]? = some (.cells cur el (0, 0)))
  (hn : n' ≤ cap) (hc : cap ≤ maxLen) (hs : cs.size = cap * sz) (hl : ys'.length = n' * sz) (ht : cs.toList.take (n' * sz) = ys') : Sat w0 (w.setRow g cs) (Rs.set p (SX.row (.slice (some ⟨g, 0, none⟩) n' cap) el sz ys')) := by
 refine hS.upd (i := p) hp _ rfl rfl rfl (by simp [World.setRow]) fun F hF => ⟨F, ⟨fun k => (hF.1 k).trans (by simp [Value.ownBlock]), n', hl, .inr ⟨g, cap, cs, rfl, Nat.zero_le _, setRow_at hg, hn, hc, hs, ht⟩⟩, fun _ hb => .inl hb, fun k hk hF' => setRow_other fun e => hF' ((hF.1 k).2 (by subst e; rfl))⟩
theorem o_delZ {i d : Nat} {s x : Operand} {t el ty : TypeId} {sz b0 j un c n2 : Nat} {A : Option Addr} {ys ys' : List Value} {K : Act → World → Prop} (p : Nat) (h : Has n e a) (hd : d < n)
    (ho : AtW R i (.call { callee := .builtin .append, args := #[s, x], argTypes := #[t, t] }) (some d) ty a) (hs : ev e s = some (.slice A b0 c)) (hx : ev e x = some (.slice (tailA A j sz c) (un - j) (c - j)))
    (ht : P.underlying t = some (.slice el)) (hinfo : (P.info? el).map (·.size) = some sz) (hS : Sat w0 w Rs) (hp : Rs[p]? = some (SX.row (.slice A un c) el sz ys)) (hb : b0 < j) (hj : j ≤ un) (h1 : ys.all Value.oneCell' = true) (hys : ys.take (b0 * sz) ++ ys.drop (j * sz) = ys') (hn2 : b0 + (un - j) = n2)
    (k : ∀ w' a', Sat w0 w' (Rs.set p (SX.row (.slice A n2 c) el sz ys')) → Has n ((d, .slice A n2 c) :: e) a' → K a' w') : wpOp P R Q i K a w := by
  subst hn2
  obtain ⟨i0, hi, hisz⟩ := Option.map_eq_some_iff.1 hinfo
  subst hisz
  obtain ⟨us, g1, g2⟩ := hS.row p hp
  rcases g2 with ⟨ev0, hus⟩ | ⟨g, cap, cur, ev0, _, hg, g3, g4, g5, g6⟩
  · simp only [Value.slice.injEq] at ev0
    omega
  · simp only [Value.slice.injEq] at ev0
    obtain ⟨rfl, rfl, rfl⟩ := ev0;have hyl : ys.length = un * i0.size := g1;have hl : (ys.drop (j * i0.size)).length = (un - j) * i0.size := by rw [List.length_drop, hyl, Nat.sub_mul]
    obtain ⟨ad, hA, hcells⟩ : ∃ ad : Addr, tailA (some ⟨g, 0, none⟩) j i0.size c = some ad ∧ ∀ o u, (ys.drop (j * i0.size))[o]? = some u → w.cell? (ad.add o) = some u := by
      by_cases hc : c = j
      · refine ⟨⟨g, 0, none⟩, by unfold tailA; rw [if_pos hc], fun o u hu => ?_⟩
        have h9 := (List.getElem?_eq_some_iff.1 hu).1;rw [hl, show un - j = 0 by omega, Nat.zero_mul] at h9
        omega
      · refine ⟨⟨g, 0 + j * i0.size, none⟩, by unfold tailA; rw [if_neg hc]; simp [add0], fun o u hu => ?_⟩
        rw [add0, Nat.zero_add, cell_of_row w g (j * i0.size + o) cur el (0, 0) hg, ← Array.getElem?_toList];rw [List.getElem?_drop] at hu;rw [← g6, List.getElem?_take] at hu
        split at hu
        · exact hu
        · cases hu
    have h1' : ∀ u ∈ ys.drop (j * i0.size), u.oneCell' = true := fun u hu => List.all_eq_true.1 h1 u (List.mem_of_mem_drop hu);have hx' : ev e x = some (.slice (some ad) (un - j) (c - j)) := by rw [hx, hA]
    have hfit : b0 * i0.size + (ys.drop (j * i0.size)).length ≤ cur.size := by
      rw [hl, g5, ← Nat.add_mul];exact Nat.mul_le_mul_right _ (by omega)
    have hr := run_append_room (P := P) w t ty el i0 ht hi g b0 c cur hg ad (un - j) (c - j) (ys.drop (j * i0.size)) hl hcells h1' (by omega) hfit;refine o_val (v := .slice (some ⟨g, 0, none⟩) (b0 + (un - j)) c) h hd ho (by simp [covers, Op.operands, Call.operands, hs, hx, notSelect]) (w' := w.setRow g (cur.toList.take (b0 * i0.size) ++ ys.drop (j * i0.size) ++ cur.toList.drop (b0 * i0.size + (ys.drop (j * i0.size)).length)).toArray) (by simp [execOp, opr, resolve, invoke, builtin, evD, hs, hx', hr]) fun a' ha => k _ a' ?_ ha;have hb2 : b0 * i0.size ≤ cur.toList.length := by rw [Array.length_toList, g5]; exact Nat.mul_le_mul_right _ (by omega)
    have htk : cur.toList.take (b0 * i0.size) = ys.take (b0 * i0.size) := by
      rw [← g6, List.take_take, Nat.min_eq_left (Nat.mul_le_mul_right _ (by omega))]
    refine hS.putRow hp hg (by omega) g4 ?_ ?_ ?_
    · have h8 : b0 * i0.size + (un - j) * i0.size ≤ c * i0.size := by rw [← Nat.add_mul]; exact Nat.mul_le_mul_right _ (by omega)
      simp only [List.size_toArray, List.length_append, List.length_take, List.length_drop, Array.length_toList, g5];rw [List.length_drop] at hl;rw [hl]
      omega
    · rw [← hys, List.length_append, List.length_take, hl, Nat.min_eq_left (by rw [hyl]; exact Nat.mul_le_mul_right _ (by omega)), Nat.add_mul]
    · have h9 : (cur.toList.take (b0 * i0.size) ++ ys.drop (j * i0.size)).length = (b0 + (un - j)) * i0.size := by rw [List.length_append, hl, List.length_take, Nat.min_eq_left hb2, Nat.add_mul]
      show List.take _ (cur.toList.take (b0 * i0.size) ++ ys.drop (j * i0.size) ++ _) = _
      rw [List.take_left' h9, htk];exact hys
theorem o_clearZ {i : Nat} {x : Operand} {t el ty : TypeId} {sz k m c : Nat} {A : Option Addr} {ys : List Value} {z : Value} {K : Act → World → Prop} (p : Nat) (h : Has n e a)
    (ho : AtW R i (.call { callee := .builtin .clear, args := #[x], argTypes := #[t] }) none ty a) (hx : ev e x = some (.slice (tailA A k sz c) m (c - k)))
    (ht : P.underlying t = some (.slice el)) (hz : ∀ w, (zeroValue el).run P w = .ok z w) (hzs : z.cells.size = sz) (hz1 : ∀ u ∈ z.cells.toList, u.oneCell' = true) (hS : Sat w0 w Rs) (hp : Rs[p]? = some (SX.row (.slice A k c) el sz ys)) (hm : k + m ≤ c) (hm0 : 0 < m) (hA0 : A ≠ none)
    (kk : ∀ w' a', Sat w0 w' Rs → Has n e a' → K a' w') : wpOp P R Q i K a w := by
  have hpl : p < Rs.length := (List.getElem?_eq_some_iff.1 hp).1
  have hsame : Rs.set p (SX.row (.slice A k c) el sz ys) = Rs := by
    refine List.ext_getElem? fun j => ?_
    by_cases hj : p = j
    · subst hj; rw [List.getElem?_set_self hpl, hp]
    · rw [List.getElem?_set_ne hj]
  obtain ⟨us, g1, g2⟩ := hS.row p hp
  rcases g2 with ⟨ev0, hus⟩ | ⟨g, cap, cur, ev0, _, hg, g3, g4, g5, g6⟩
  · simp only [Value.slice.injEq] at ev0
    exact absurd ev0.1 hA0
  · simp only [Value.slice.injEq] at ev0
    obtain ⟨rfl, rfl, rfl⟩ := ev0;have hzl : (Builtin.zeroCells z.cells m).toList.length = m * sz := by rw [Array.length_toList]; simp [Builtin.zeroCells, hzs]
    have hA : tailA (some ⟨g, 0, none⟩) k sz c = some ⟨g, 0 + k * sz, none⟩ := by unfold tailA; rw [if_neg (by omega)]; simp [add0]
    have hmem : ∀ u ∈ (Builtin.zeroCells z.cells m).toList, u.oneCell' = true := by
      intro u hu;simp only [Builtin.zeroCells, Array.toList_map, Array.toList_range, List.mem_map, List.mem_range] at hu;obtain ⟨q, hq, rfl⟩ := hu
      have h0 : 0 < z.cells.size := by
        rcases Nat.eq_zero_or_pos z.cells.size with h0 | h0
        · rw [h0, Nat.mul_zero] at hq; omega
        · exact h0
      have h9 := Nat.mod_lt q h0;rw [getElem!_pos z.cells _ h9];exact hz1 _ (Array.getElem_mem_toList h9)
    have hst := run_storeCells_at P g (0 + k * sz) el (Builtin.zeroCells z.cells m).toList 0 cur w hg (by rw [hzl, g5, Nat.zero_add, Nat.add_zero, ← Nat.add_mul]; exact Nat.mul_le_mul_right _ hm) hmem;simp only [Nat.zero_add, Nat.add_zero] at hst hA;obtain ⟨m', rfl⟩ : ∃ q, m = q + 1 := ⟨m - 1, by omega⟩;refine o_skipV (v := .tuple #[]) h ho (by simp [covers, Op.operands, Call.operands, hx, notSelect]) (w' := w.setRow g (cur.toList.take (k * sz) ++ (Builtin.zeroCells z.cells (m' + 1)).toList ++ cur.toList.drop (k * sz + (Builtin.zeroCells z.cells (m' + 1)).toList.length)).toArray) ?_ fun a' ha => kk _ a' ?_ ha
    · simp [execOp, opr, resolve, invoke, builtin, evD, hx, hA, Builtin.clear_, run_underlying ht, hz, hst]
    · have h5 : k * sz + (m' + 1) * sz ≤ c * sz := by rw [← Nat.add_mul]; exact Nat.mul_le_mul_right _ hm
      have h6 : k * sz ≤ cur.toList.length := by rw [Array.length_toList, g5]; omega
      rw [← hsame];refine hS.putRow hp hg g3 g4 ?_ g1 ?_
      · simp only [List.size_toArray, List.length_append, List.length_take, List.length_drop, Array.length_toList, g5]
        rw [Array.length_toList] at hzl;rw [hzl]
        omega
      · show List.take _ (cur.toList.take (k * sz) ++ _ ++ _) = _
        rw [List.append_assoc, List.take_left' (by rw [List.length_take, Nat.min_eq_left h6])];exact g6
end
end Go.Proofs.Ytbgfiiehjaghiaa.SX
