/- The walker's steps: one lemma for each way in which an operation meets memory; what only computes is run by the kernel over the slots' values. -/
import Derived.Test.YtmeejdeafmgdnaaSXb
namespace Go.Proofs.Ytmeejdeafmgdnaa
namespace SX
open Go.RowKit

def evD (e : Env) (x : Operand) : Value := (ev e x).getD undef
def covers (e : Env) (op : Op) : Bool := op.operands.toList.all fun x => (ev e x).isSome
def notSelect : Op → Bool | .select .. => false | _ => true
/-- The operation that is run: only what it does and its type count. -/
def opr (op : Op) (ty : TypeId) : Oper := { dst := none, op := op, type := ty, pos := "", after := #[], guard := none }

section
variable {P : Program} {R : Array Oper} {Q : Exit → Act → World → Prop} {n : Nat} {e : Env} {a : Act} {w w0 : World} {Rs : List Asn}

theorem exec_eq {o : Oper} {op : Op} {ty : TypeId} (h : Has n e a) (h1 : o.op = op) (h2 : o.type = ty) (hc : (covers e op && notSelect op) = true) : execOp a.eval o = execOp (evD e) (opr op ty) := by
  simp only [Bool.and_eq_true] at hc
  obtain ⟨hc1, hc2⟩ := hc
  have hs : ∀ cs b, o.op ≠ .select cs b := by
    intro cs b hh
    rw [h1] at hh
    subst hh
    simp [notSelect] at hc2
  have he : ∀ x ∈ o.op.operands, a.eval x = evD e x := by
    intro x hx
    rw [h1] at hx
    have := List.all_eq_true.1 hc1 x (by simpa using hx)
    obtain ⟨v, hv⟩ := Option.isSome_iff_exists.1 this
    rw [h.ev hv]
    simp [evD, hv]
  rw [execOp_congr o hs he]
  obtain ⟨d, op', ty', pos, af, g⟩ := o
  simp only at h1 h2
  subst h1 h2
  rfl

/-- What only computes. -/
theorem v_pure {S : World → Prop} {i d : Nat} {op : Op} {ty : TypeId} {v : Value} (h : Has n e a) (ho : AtW R i op (some d) ty a) (hc : (covers e op && notSelect op) = true)
    (hr : ∀ w, (execOp (evD e) (opr op ty)).run P w = .ok (.value v) w) : Val P R i a S d v :=
  Val.of_run ho fun o w h1 h2 _ => by rw [exec_eq h h1 h2 hc]; exact hr w
theorem v_off {S : World → Prop} {i d g gd : Nat} {op : Op} {ty : TypeId} {b : Bool} (h : Has n e a) (ho : AtG R i op (some d) ty g b gd) (hg : lk e gd = some (.bool (!b))) : Val P R i a S d undef := Val.off ho h hg
/-- What it hands over, said otherwise. -/
theorem Val.as {S : World → Prop} {i d : Nat} {v v' : Value} (y : Val P R i a S d v) (hv : v = v') : Val P R i a S d v' := hv ▸ y

/-- Types of one cell. -/
def isCell (P : Program) (t : TypeId) : Bool := match P.underlying t with
  | some (.struct _) => false
  | some (.array ..) => false
  | some _ => true
  | none => false
theorem run_loadVar_cell {t : TypeId} {p : Addr} {v : Value} (ht : isCell P t = true) (hc : w.cell? p = some v) : (loadVar t p).run P w = .ok v w := by
  unfold isCell at ht
  unfold loadVar isAgg underlying
  cases hu : P.underlying t with
  | none => simp [hu] at ht
  | some d =>
    simp only [hu] at ht
    cases d <;> first | (simp at ht; done) | simp [hu, hc]
theorem run_load {t : TypeId} {x : Operand} {ty : TypeId} {p : Addr} {v : Value} {ρ : Operand → Value} (hx : ρ x = .pointer (some p)) (ht : isCell P t = true) (hc : w.cell? p = some v) : (execOp ρ (opr (.load t x) ty)).run P w = .ok (.value v) w := by
  have h1 := run_loadVar_cell (P := P) (w := w) ht hc
  simp [execOp, opr, Instr.loadAt, Instr.sureAddr, hx, h1]

theorem cell_blk {b j : Nat} {cs : List Value} {T : TypeId} {v : Value} (h : w.heap[b]? = some (.cells cs.toArray T (0, 0))) (hj : cs[j]? = some v) : w.cell? ⟨b, j, none⟩ = some v := by
  rw [cell_of_row w b j _ T (0, 0) h]
  simpa using hj

/-- A cell of a block that is known whole. -/
theorem v_load {S : World → Prop} {i d : Nat} {t : TypeId} {x : Operand} {ty : TypeId} {b j : Nat} {cs : List Value} {T : TypeId} {v : Value} (h : Has n e a) (ho : AtW R i (.load t x) (some d) ty a) (hx : ev e x = some (.pointer (some ⟨b, j, none⟩)))
    (ht : isCell P t = true) (hb : ∀ w, S w → w.heap[b]? = some (.cells cs.toArray T (0, 0))) (hj : cs[j]? = some v) : Val P R i a S d v :=
  Val.of_run ho fun o w h1 h2 hS => by
    rw [exec_eq h h1 h2 (by simp [covers, Op.operands, hx, notSelect])]
    exact run_load (by simp [evD, hx]) ht (cell_blk (hb w hS) hj)
/-- A cell that is known by itself. -/
theorem v_loadC {S : World → Prop} {i d : Nat} {t : TypeId} {x : Operand} {ty : TypeId} {p : Addr} {v : Value} (h : Has n e a) (ho : AtW R i (.load t x) (some d) ty a) (hx : ev e x = some (.pointer (some p)))
    (ht : isCell P t = true) (hb : ∀ w, S w → w.cell? p = some v) : Val P R i a S d v :=
  Val.of_run ho fun o w h1 h2 hS => by
    rw [exec_eq h h1 h2 (by simp [covers, Op.operands, hx, notSelect])]
    exact run_load (by simp [evD, hx]) ht (hb w hS)

/-- A struct or an array: how many cells. -/
def aggSize (P : Program) (t : TypeId) : Option Nat := match P.underlying t with
  | some (.struct _) => (P.info? t).map (·.size)
  | some (.array ..) => (P.info? t).map (·.size)
  | _ => none
theorem run_loadCellsFrom {p : Addr} : ∀ (vs : List Value) (j : Nat) (acc : Array Value), (∀ i u, vs[i]? = some u → w.cell? (p.add (j + i)) = some u) →
    (loadCellsFrom p j vs.length acc).run P w = .ok (acc ++ vs.toArray) w := by
  intro vs
  induction vs with
  | nil => intro j acc _; simp [loadCellsFrom]
  | cons v vs ih =>
    intro j acc h
    have h0 := h 0 v rfl
    simp only [Nat.add_zero] at h0
    have := ih (j + 1) (acc.push v) (fun i u hu => by rw [show j + 1 + i = j + (i + 1) from by omega]; exact h (i + 1) u (by simpa using hu))
    simp [loadCellsFrom, h0, this]
theorem run_loadVar_agg {t : TypeId} {p : Addr} {vs : List Value} (ht : aggSize P t = some vs.length) (hc : ∀ i u, vs[i]? = some u → w.cell? (p.add i) = some u) : (loadVar t p).run P w = .ok (.agg vs.toArray) w := by
  unfold aggSize at ht
  have hl := run_loadCellsFrom (P := P) (w := w) (p := p) vs 0 #[] (by simpa using hc)
  unfold loadVar isAgg underlying
  cases hu : P.underlying t with
  | none => simp [hu] at ht
  | some d =>
    simp only [hu] at ht
    cases hi : P.info? t with
    | none => cases d <;> simp [hi] at ht
    | some ti =>
      cases d <;> simp [hi] at ht <;> simp [hu, sizeOf, typeInfo, hi, loadCells, ht, hl]
theorem v_loadAgg {S : World → Prop} {i d : Nat} {t : TypeId} {x : Operand} {ty : TypeId} {b j : Nat} {cs vs : List Value} {T : TypeId} (h : Has n e a) (ho : AtW R i (.load t x) (some d) ty a) (hx : ev e x = some (.pointer (some ⟨b, j, none⟩)))
    (ht : aggSize P t = some vs.length) (hb : ∀ w, S w → w.heap[b]? = some (.cells cs.toArray T (0, 0))) (hj : (cs.drop j).take vs.length = vs) : Val P R i a S d (.agg vs.toArray) :=
  Val.of_run ho fun o w h1 h2 hS => by
    rw [exec_eq h h1 h2 (by simp [covers, Op.operands, hx, notSelect])]
    have hr := run_loadVar_agg (P := P) (w := w) (p := ⟨b, j, none⟩) ht (fun i u hu => by
      have e1 : (⟨b, j, none⟩ : Addr).add i = ⟨b, j + i, none⟩ := by unfold Addr.add; split <;> simp_all
      rw [e1]
      refine cell_blk (hb w hS) ?_
      rw [← hj, List.getElem?_take] at hu
      split at hu
      · simpa [List.getElem?_drop] using hu
      · cases hu)
    simp [execOp, opr, Instr.loadAt, Instr.sureAddr, evD, hx, hr]

/-! ### addresses whose place is reckoned -/
theorem add0 (b j k : Nat) : (⟨b, j, none⟩ : Addr).add k = ⟨b, j + k, none⟩ := by unfold Addr.add; split <;> simp_all
/-- '&xs[i]' of a slice. -/
theorem v_index {S : World → Prop} {i d : Nat} {t el : TypeId} {x ix : Operand} {ty : TypeId} {b off len cap sz : Nat} {k : IntKind} {q : Int} (h : Has n e a) (ho : AtW R i (.indexAddr t x ix) (some d) ty a)
    (hx : ev e x = some (.slice (some ⟨b, off, none⟩) len cap)) (hi : ev e ix = some (.int k q)) (ht : P.underlying t = some (.slice el)) (hs : (P.info? el).map (·.size) = some sz) (h0 : 0 ≤ q) (h1 : q < len) :
    Val P R i a S d (.pointer (some ⟨b, off + q.toNat * sz, none⟩)) :=
  v_pure h ho (by simp [covers, Op.operands, hx, hi, notSelect]) fun w => by
    obtain ⟨ti, hti, rfl⟩ := Option.map_eq_some_iff.1 hs
    simp [execOp, opr, Instr.indexAt, evD, hx, hi, asIntOf, underlying, ht, h0, h1, sizeOf, typeInfo, hti, add0]
/-- '&a[i]' of an array behind an address. -/
theorem v_indexA {S : World → Prop} {i d : Nat} {t el : TypeId} {x ix : Operand} {ty : TypeId} {b off len sz : Nat} {k : IntKind} {q : Int} (h : Has n e a) (ho : AtW R i (.indexAddr t x ix) (some d) ty a)
    (hx : ev e x = some (.pointer (some ⟨b, off, none⟩))) (hi : ev e ix = some (.int k q)) (ht : P.underlying t = some (.array len el)) (hs : (P.info? el).map (·.size) = some sz) (h0 : 0 ≤ q) (h1 : q < len) :
    Val P R i a S d (.pointer (some ⟨b, off + q.toNat * sz, none⟩)) :=
  v_pure h ho (by simp [covers, Op.operands, hx, hi, notSelect]) fun w => by
    obtain ⟨ti, hti, rfl⟩ := Option.map_eq_some_iff.1 hs
    simp [execOp, opr, Instr.indexAt, evD, hx, hi, asIntOf, underlying, ht, h0, h1, sizeOf, typeInfo, hti, add0, Instr.sureAddr]

/-! ### what turns memory -/
/-- An operation that hands over a value and may turn the world. -/
theorem o_val {i d : Nat} {op : Op} {ty : TypeId} {v : Value} {w' : World} {K : Act → World → Prop} (h : Has n e a) (hd : d < n) (ho : AtW R i op (some d) ty a) (hc : (covers e op && notSelect op) = true)
    (hr : (execOp (evD e) (opr op ty)).run P w = .ok (.value v) w') (k : ∀ a', Has n ((d, v) :: e) a' → K a' w') : wpOp P R Q i K a w := by
  obtain ⟨o, h1, h2, h3, h4, h5⟩ := ho
  unfold wpOp
  rw [h1]
  simp only [h5, if_true]
  left
  unfold Oper.wp
  rw [exec_eq h h2 h4 hc, hr]
  simp only [Oper.upon, h3]
  exact k _ (h.put d v hd)
/-- One that hands over nothing. -/
theorem o_skip {i : Nat} {op : Op} {ty : TypeId} {w' : World} {K : Act → World → Prop} (h : Has n e a) (ho : AtW R i op none ty a) (hc : (covers e op && notSelect op) = true)
    (hr : (execOp (evD e) (opr op ty)).run P w = .ok .skip w') (k : ∀ a', Has n e a' → K a' w') : wpOp P R Q i K a w := by
  obtain ⟨o, h1, h2, h3, h4, h5⟩ := ho
  unfold wpOp
  rw [h1]
  simp only [h5, if_true]
  left
  unfold Oper.wp
  rw [exec_eq h h2 h4 hc, hr]
  simp only [Oper.upon, h3, Act.put]
  exact k _ h

/-- New blocks: 'box', 'alloc', 'buildSlice'. -/
theorem o_new {i d : Nat} {op : Op} {ty : TypeId} {cs : List Value} {T : TypeId} {K : Act → World → Prop} (f : Nat → Value) (h : Has n e a) (hd : d < n) (ho : AtW R i op (some d) ty a) (hc : (covers e op && notSelect op) = true)
    (hS : Sat w0 w Rs) (hr : ∀ w, (execOp (evD e) (opr op ty)).run P w = .ok (.value (f w.heap.size)) (w.alloc (.cells cs.toArray T)))
    (k : ∀ b w' a', w0.heap.size ≤ b → Sat w0 w' (SX.blk b cs T :: Rs) → Has n ((d, f b) :: e) a' → K a' w') : wpOp P R Q i K a w :=
  o_val h hd ho hc (hr w) fun a' ha => k w.heap.size _ a' hS.below.size (hS.alloc cs T) ha

/-- A store of one cell. -/
theorem o_store {i : Nat} {t : TypeId} {x y : Operand} {ty : TypeId} {b j : Nat} {cs cs' : List Value} {T : TypeId} {v : Value} {K : Act → World → Prop} (p : Nat) (h : Has n e a) (ho : AtW R i (.store t x y) none ty a)
    (hx : ev e x = some (.pointer (some ⟨b, j, none⟩))) (hy : ev e y = some v) (h1 : v.oneCell' = true) (ht : (P.info? t).map (·.size) = some 1) (hS : Sat w0 w Rs) (hp : Rs[p]? = some (SX.blk b cs T)) (hj : j < cs.length) (hcs : cs.set j v = cs')
    (k : ∀ w' a', Sat w0 w' (Rs.set p (SX.blk b cs' T)) → Has n e a' → K a' w') : wpOp P R Q i K a w := by
  have hb := hS.blk p hp
  have hcell : w.cell? ⟨b, j, none⟩ = some cs[j] := cell_blk hb (List.getElem?_eq_getElem hj)
  have hfr : w.frozen? ⟨b, j, none⟩ = false := frozen_of_row w b j _ T hb
  have hr : (execOp (evD e) (opr (.store t x y) ty)).run P w = .ok .skip (w.setCell ⟨b, j, none⟩ v) := by
    obtain ⟨ti, hti, hsz⟩ := Option.map_eq_some_iff.1 ht
    have hvc : v.cells = #[v] := by cases v <;> simp [Value.oneCell'] at h1 <;> rfl
    have hst := run_store P w ⟨b, j, none⟩ v .plain h1
    simp [execOp, opr, Instr.storeAt, Instr.sureAddr, evD, hx, hy, storeVar, sizeOf, typeInfo, hti, hsz, hvc, storeCells, add0, hst, hcell, hfr]
  refine o_skip h ho (by simp [covers, Op.operands, hx, hy, notSelect]) hr fun a' ha => k _ a' ?_ ha
  have := hS.setCell p hp j v
  rwa [hcs] at this

/-- A store of several cells (a struct into a block). -/
theorem run_storeCells_blk {T : TypeId} {b : Nat} : ∀ (vs : List Value) (j o : Nat) (w : World) (cs : List Value), w.heap[b]? = some (.cells cs.toArray T (0, 0)) → j + o + vs.length ≤ cs.length → (∀ v ∈ vs, v.oneCell' = true) →
    ∃ w', (storeCells ⟨b, j, none⟩ vs o).run P w = .ok () w' ∧ w'.heap[b]? = some (.cells (cs.take (j + o) ++ vs ++ cs.drop (j + o + vs.length)).toArray T (0, 0)) ∧ w'.os = w.os ∧ w'.tape = w.tape ∧ w'.output = w.output ∧ w'.heap.size = w.heap.size ∧
      ∀ k, k ≠ b → w'.heap[k]? = w.heap[k]? := by
  intro vs
  induction vs with
  | nil => intro j o w cs hb _ _; exact ⟨w, by simp [storeCells], by simpa using hb, rfl, rfl, rfl, rfl, fun _ _ => rfl⟩
  | cons v vs ih =>
    intro j o w cs hb hl h1
    simp only [List.length_cons] at hl
    have hcell : w.cell? ⟨b, j + o, none⟩ = some cs[j + o] := cell_blk hb (List.getElem?_eq_getElem (by omega))
    have hfr : w.frozen? ⟨b, j + o, none⟩ = false := frozen_of_row w b (j + o) _ T hb
    have hst := run_store P w ⟨b, j + o, none⟩ v .plain (h1 v (by simp))
    have hb' : (w.setCell ⟨b, j + o, none⟩ v).heap[b]? = some (.cells (cs.set (j + o) v).toArray T (0, 0)) := by
      have := heap_setCell_same w b (j + o) cs.toArray T v hb
      simpa using this
    obtain ⟨w', hr, h2, h3, h4, h5, h6, h7⟩ := ih j (o + 1) (w.setCell ⟨b, j + o, none⟩ v) (cs.set (j + o) v) hb' (by simp; omega) (fun u hu => h1 u (by simp [hu]))
    refine ⟨w', by simp [storeCells, add0, hst, hcell, hfr, hr], ?_, h3, h4, h5, by simpa using h6, fun k hk => (h7 k hk).trans (heap_setCell_other w _ k v hk)⟩
    rw [h2]
    congr 3
    have e1 : (cs.set (j + o) v).take (j + (o + 1)) = cs.take (j + o) ++ [v] := by
      rw [show j + (o + 1) = j + o + 1 from by omega, List.take_succ_eq_append_getElem (by simp; omega), List.take_set, List.set_eq_of_length_le (by rw [List.length_take]; omega), List.getElem_set_self]
    have e2 : (cs.set (j + o) v).drop (j + (o + 1) + vs.length) = cs.drop (j + o + (vs.length + 1)) := by
      rw [List.drop_set]
      split
      · congr 1; omega
      · omega
    rw [e1, e2]
    simp
theorem o_storeAgg {i : Nat} {t : TypeId} {x y : Operand} {ty : TypeId} {b j : Nat} {cs cs' vs : List Value} {T : TypeId} {K : Act → World → Prop} (p : Nat) (h : Has n e a) (ho : AtW R i (.store t x y) none ty a)
    (hx : ev e x = some (.pointer (some ⟨b, j, none⟩))) (hy : ev e y = some (.agg vs.toArray)) (h1 : vs.all Value.oneCell' = true) (ht : (P.info? t).map (·.size) = some vs.length) (hS : Sat w0 w Rs) (hp : Rs[p]? = some (SX.blk b cs T)) (hj : j + vs.length ≤ cs.length)
    (hcs : cs.take j ++ vs ++ cs.drop (j + vs.length) = cs') (k : ∀ w' a', Sat w0 w' (Rs.set p (SX.blk b cs' T)) → Has n e a' → K a' w') : wpOp P R Q i K a w := by
  have hb := hS.blk p hp
  obtain ⟨w', hr, h2, h3, h4, h5, h6, h7⟩ := run_storeCells_blk (P := P) vs j 0 w cs hb (by simpa using hj) (fun v hv => List.all_eq_true.1 h1 v hv)
  have hrun : (execOp (evD e) (opr (.store t x y) ty)).run P w = .ok .skip w' := by
    obtain ⟨ti, hti, hsz⟩ := Option.map_eq_some_iff.1 ht
    simp [execOp, opr, Instr.storeAt, Instr.sureAddr, evD, hx, hy, storeVar, sizeOf, typeInfo, hti, hsz, Value.cells, hr]
  refine o_skip h ho (by simp [covers, Op.operands, hx, hy, notSelect]) hrun fun a' ha => k _ a' ?_ ha
  refine hS.upd hp _ h3 h4 h5 (by omega) fun F hF => ⟨F, ⟨hF.1, by rw [← hcs]; simpa using h2⟩, fun b hb => .inl hb, fun k hk hF' => h7 k fun e => hF' ((hF.1 k).2 e)⟩

/-- append(v, ..) onto a row that is owned; what is appended lies in a block that is known whole. -/
theorem o_append {i d : Nat} {s x : Operand} {t el ty : TypeId} {v : Value} {sz bytes m c b : Nat} {xs news : List Value} {z : Value} {T2 : TypeId} {K : Act → World → Prop} (p q : Nat) (h : Has n e a) (hd : d < n)
    (ho : AtW R i (.call { callee := .builtin .append, args := #[s, x], argTypes := #[t, t] }) (some d) ty a) (hs : ev e s = some v) (hx : ev e x = some (.slice (some ⟨b, 0, none⟩) m c))
    (ht : P.underlying t = some (.slice el)) (hinfo : (P.info? el).map (fun i => (i.zero, i.size, i.bytes)) = some (some z, sz, bytes)) (hz : z.cells.size = sz) (hsz : 0 < sz)
    (hS : Sat w0 w Rs) (hp : Rs[p]? = some (SX.row v el sz xs)) (hq : Rs[q]? = some (SX.blk b news T2)) (hn : news.length = m * sz) (h1 : news.all Value.oneCell' = true) (hlen : xs.length + news.length ≤ 1000000000) (hby : bytes ≤ 100000 * sz)
    (k : ∀ A nn cc w' a', Sat w0 w' (Rs.set p (SX.row (.slice A nn cc) el sz (xs ++ news))) → (nn * sz = xs.length + news.length) → Has n ((d, .slice A nn cc) :: e) a' → K a' w') : wpOp P R Q i K a w := by
  obtain ⟨i0, hi, hzz⟩ := Option.map_eq_some_iff.1 hinfo
  simp only [Prod.mk.injEq] at hzz
  obtain ⟨hz0, hz1, hz2⟩ := hzz
  obtain ⟨nx, hown⟩ := hS.row p hp
  have hb := hS.blk q hq
  have hl := hown.1
  have hcells : ∀ j u, news[j]? = some u → w.cell? ((⟨b, 0, none⟩ : Addr).add j) = some u := fun j u hu => by
    rw [add0]
    exact cell_blk hb (by simpa using hu)
  have hnx : nx * sz + m * sz ≤ 1000000000 := by omega
  have hnm : (nx + m) * sz ≤ 1000000000 := by rw [Nat.add_mul]; exact hnx
  have hnm1 : nx + m ≤ 1000000000 := Nat.le_trans (Nat.le_mul_of_pos_right _ hsz) hnm
  have hbytes : (nx + m) * bytes ≤ 140737488355328 := by
    have h2 : (nx + m) * bytes ≤ (nx + m) * (100000 * sz) := Nat.mul_le_mul_left _ hby
    have h3 : (nx + m) * (100000 * sz) = 100000 * ((nx + m) * sz) := by rw [Nat.mul_left_comm]
    omega
  obtain ⟨v', w', hr, h2, h3, h4, h5⟩ := run_append_own_at (P := P) w 0 t ty el i0 z sz bytes ht hi hz0 hz1 hz2 hz hsz v nx xs hown ⟨b, 0, none⟩ m c news hn hcells (fun u hu => List.all_eq_true.1 h1 u hu) (by simp only [maxLen]; omega) hbytes (Nat.zero_le _)
  have hrun : (execOp (evD e) (opr (.call { callee := .builtin .append, args := #[s, x], argTypes := #[t, t] }) ty)).run P w = .ok (.value v') w' := by
    simp [execOp, opr, resolve, invoke, builtin, evD, hs, hx, hr]
  have hS' : Sat w0 w' (Rs.set p (SX.row v' el sz (xs ++ news))) := by
    refine hS.upd hp _ h3.os h3.tape h3.output h3.size fun F hF => ⟨fun k => v'.ownBlock = some k, ⟨fun _ => Iff.rfl, _, h2⟩, fun k hk => ?_, fun k hk hF' => h3.block k hk fun e => hF' ((hF.1 k).2 e.symm)⟩
    rcases h5 with h5 | h5
    · exact .inl ((hF.1 k).2 (by rw [← h5]; exact hk))
    · rw [h5] at hk
      injection hk with hk
      exact .inr (by omega)
  obtain ⟨A, nn, cc, rfl, hnn⟩ : ∃ A nn cc, v' = .slice A nn cc ∧ nn = nx + m := by
    rcases h2.2 with ⟨rfl, hn0⟩ | ⟨g, cap, cur, rfl, _⟩
    · exact ⟨none, 0, 0, rfl, hn0.symm⟩
    · exact ⟨_, _, cap, rfl, rfl⟩
  refine o_val h hd ho (by simp [covers, Op.operands, Call.operands, hs, hx, notSelect]) hrun fun a' ha => k A nn cc w' a' hS' ?_ ha
  rw [hnn, Nat.add_mul, ← hl, hn]

/-- A call of a Go function, by its contract. -/
theorem o_call {i d f : Nat} {xs : Array Operand} {ts : Array TypeId} {ty : TypeId} {vs : List Value} {fn : Func} {Post : Ending → World → Prop} {K : Act → World → Prop} (h : Has n e a) (hd : d < n)
    (ho : AtW R i (.call { callee := .value (.func f), args := xs, argTypes := ts }) (some d) ty a) (hx : xs.toList.mapM (ev e) = some vs) (hf : P.funcs[f]? = some fn) (hb : (fn.body.isNone || fn.name == "runtime.NumGoroutine") = false)
    (hcall : Calls P f vs.toArray w Post) (kr : ∀ v w' a', Post (.returned v) w' → Has n ((d, v) :: e) a' → K a' w') (kp : ∀ c w', Post (.panicked c) w' → Q (.panic c) a w') (ko : ∀ w', Post .outgrown w' → False) : wpOp P R Q i K a w := by
  obtain ⟨o, h1, h2, h3, h4, h5⟩ := ho
  have hargs : xs.map a.eval = vs.toArray := by
    apply Array.toList_inj.1
    rw [Array.toList_map]
    have key : ∀ (l : List Operand) (vs : List Value), l.mapM (ev e) = some vs → l.map a.eval = vs := by
      intro l
      induction l with
      | nil => intro vs hv; simp at hv; simp [hv]
      | cons x l ih =>
        intro vs hv
        rw [List.mapM_cons] at hv
        cases hx1 : ev e x with
        | none => simp [hx1] at hv
        | some u =>
          cases hx2 : l.mapM (ev e) with
          | none => simp [hx1, hx2] at hv
          | some us =>
            simp [hx1, hx2] at hv
            subst hv
            simp [h.ev hx1, ih us hx2]
    simpa using key _ _ hx
  simp only [Bool.or_eq_false_iff] at hb
  have hn1 : ¬ fn.body = none := by
    intro he
    rw [he] at hb
    simp at hb
  have hn2 : ¬ fn.name = "runtime.NumGoroutine" := by simpa using hb.2
  have hrun : (execOp a.eval o).run P w = .ok (.enter f vs.toArray) w := by
    simp [execOp, h2, resolve, Deferred.ofValue, Act.eval, invoke, callFunc, hf, hn1, hn2, hargs]
  unfold wpOp
  rw [h1]
  simp only [h5, if_true]
  left
  unfold Oper.wp
  rw [hrun]
  simp only [Oper.upon]
  refine hcall.mono fun en w' hp => ?_
  cases en with
  | returned v => rw [h3]; exact kr v w' _ hp (h.put d v hd)
  | panicked c => exact kp c w' hp
  | outgrown => exact (ko w' hp).elim

/-- A call of a function value, by the contract of the function that it is. -/
theorem o_callF {i d f t : Nat} {cap : List Value} {xs : Array Operand} {ts : Array TypeId} {ty : TypeId} {vs : List Value} {fn : Func} {Post : Ending → World → Prop} {K : Act → World → Prop} (h : Has n e a) (hd : d < n)
    (ho : AtW R i (.call { callee := .value (.tmp t), args := xs, argTypes := ts }) (some d) ty a) (hx : xs.toList.mapM (ev e) = some vs) (ht : lk e t = some (.func (.func f) #[] cap.toArray)) (hf : P.funcs[f]? = some fn) (hb : (fn.body.isNone || fn.name == "runtime.NumGoroutine") = false)
    (hcall : Calls P f (vs ++ cap).toArray w Post) (kr : ∀ v w' a', Post (.returned v) w' → Has n ((d, v) :: e) a' → K a' w') (kp : ∀ c w', Post (.panicked c) w' → Q (.panic c) a w') (ko : ∀ w', Post .outgrown w' → False) : wpOp P R Q i K a w := by
  obtain ⟨o, h1, h2, h3, h4, h5⟩ := ho
  have hargs : xs.map a.eval = vs.toArray := by
    apply Array.toList_inj.1
    rw [Array.toList_map]
    have key : ∀ (l : List Operand) (vs : List Value), l.mapM (ev e) = some vs → l.map a.eval = vs := by
      intro l
      induction l with
      | nil => intro vs hv; simp at hv; simp [hv]
      | cons x l ih =>
        intro vs hv
        rw [List.mapM_cons] at hv
        cases hx1 : ev e x with
        | none => simp [hx1] at hv
        | some u =>
          cases hx2 : l.mapM (ev e) with
          | none => simp [hx1, hx2] at hv
          | some us =>
            simp [hx1, hx2] at hv
            subst hv
            simp [h.ev hx1, ih us hx2]
    simpa using key _ _ hx
  simp only [Bool.or_eq_false_iff] at hb
  have hn1 : ¬ fn.body = none := by
    intro he
    rw [he] at hb
    simp at hb
  have hn2 : ¬ fn.name = "runtime.NumGoroutine" := by simpa using hb.2
  have hrun : (execOp a.eval o).run P w = .ok (.enter f (vs ++ cap).toArray) w := by
    have hte : a.eval (.tmp t) = .func (.func f) #[] cap.toArray := h.ev ht
    simp [execOp, h2, resolve, Deferred.ofValue, hte, invoke, callFunc, hf, hn1, hn2, hargs]
  unfold wpOp
  rw [h1]
  simp only [h5, if_true]
  left
  unfold Oper.wp
  rw [hrun]
  simp only [Oper.upon]
  refine hcall.mono fun en w' hp => ?_
  cases en with
  | returned v => rw [h3]; exact kr v w' _ hp (h.put d v hd)
  | panicked c => exact kp c w' hp
  | outgrown => exact (ko w' hp).elim

/-- Go's own panic(x). -/
theorem o_panic {i : Nat} {x : Operand} {ty : TypeId} {v : Value} {t : TypeId} {K : Act → World → Prop} (h : Has n e a) (ho : AtW R i (.panic x) none ty a) (hx : ev e x = some (.iface t v)) (k : Q (.panic [{ v := .iface t v, recovered := false }]) a w) : wpOp P R Q i K a w := by
  obtain ⟨o, h1, h2, h3, h4, h5⟩ := ho
  have hrun : (execOp a.eval o).run P w = .halt (.panic (.iface t v)) w := by
    simp [execOp, h2, Instr.panic, h.ev hx]
  unfold wpOp
  rw [h1]
  simp only [h5, if_true]
  left
  unfold Oper.wp
  rw [hrun]
  exact k
end
end SX
end Go.Proofs.Ytmeejdeafmgdnaa
