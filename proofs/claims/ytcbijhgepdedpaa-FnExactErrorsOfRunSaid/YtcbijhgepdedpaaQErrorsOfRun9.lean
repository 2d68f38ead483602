/- What the claim FnExactErrorsOfRun rests on, part 9 of 22; the last part proves it: for every input the law answers true, and its arguments read behind the call as before it. No condition. -/
import Derived.Lib.OwnBridge
import Derived.Test.YtcbijhgepdedpaaQErrorsOfRun4
import Derived.Test.YtcbijhgepdedpaaQErrorsOfRun7
namespace Go.Proofs.Ytcbijhgepdedpaa
namespace SX
open Go.RowKit Go.Proofs.YtcbijhgepdedpaaW.PrintWords
def jW (l : List Asn) : Asn where
 says w F := ∃ G : Nat → Nat → Prop, (∀ k, F k ↔ ∃ i, i < l.length ∧ G i k) ∧ (∀ i j k, i < l.length → j < l.length → G i k → G j k → i = j) ∧ ∀ (i : Nat) (R : Asn), l[i]? = some R → R.says w (G i)
 lt w F h k hk := by
  obtain ⟨G, h1, _, h3⟩ := h
  obtain ⟨i, hi, hg⟩ := (h1 k).1 hk
  exact (l[i]).lt w (G i) (h3 i _ (List.getElem?_eq_getElem hi)) k hg
 loc w w' F hz h hk := by
  obtain ⟨G, h1, h2, h3⟩ := h
  refine ⟨G, h1, h2, fun i R hi => R.loc w w' (G i) hz (h3 i R hi) fun b hb => hk b ((h1 b).2 ⟨i, (List.getElem?_eq_some_iff.1 hi).1, hb⟩)⟩
section
variable {w0 w : World} {Rs : List Asn}
theorem Sat.split {l : List Asn} (h : Sat w0 w (jW l :: Rs)) : Sat w0 w (l ++ Rs) := by
  obtain ⟨hb, F, h1, h2, h3⟩ := h
  obtain ⟨G, g1, g2, g3⟩ := h1 0 _ rfl
  refine ⟨hb, fun j b => if j < l.length then G j b else F (j - l.length + 1) b, fun j S hj => ?_, fun j j' b hj hj' => ?_, fun j b hj => ?_⟩
  · by_cases hl : j < l.length
    · rw [List.getElem?_append_left hl] at hj
      simp only [hl, if_true];exact g3 j S hj
    · rw [List.getElem?_append_right (by omega)] at hj
      simp only [hl, if_false];exact h1 (j - l.length + 1) S (by simpa using hj)
  · dsimp only at hj hj'
    split at hj <;> split at hj'
    · rename_i a b; exact g2 j j' _ a b hj hj'
    · rename_i a _; have := h2 0 _ _ ((g1 _).2 ⟨j, a, hj⟩) hj'; omega
    · rename_i _ a; have := h2 0 _ _ ((g1 _).2 ⟨j', a, hj'⟩) hj; omega
    · have := h2 _ _ _ hj hj'; omega
  · dsimp only at hj
    split at hj
    · rename_i a; exact h3 0 b ((g1 b).2 ⟨j, a, hj⟩)
    · exact h3 _ b hj
theorem Sat.merge {l : List Asn} (h : Sat w0 w (l ++ Rs)) : Sat w0 w (jW l :: Rs) := by
  obtain ⟨hb, F, h1, h2, h3⟩ := h
  refine ⟨hb, fun j b => match j with | 0 => ∃ i, i < l.length ∧ F i b | j + 1 => F (j + l.length) b, fun j S hj => ?_, fun j j' b hj hj' => ?_, fun j b hj => ?_⟩
  · cases j with
    | zero =>
      simp at hj
      subst hj;refine ⟨F, fun _ => Iff.rfl, fun i j k _ _ hi hj => h2 i j k hi hj, fun i R hi => h1 i R ?_⟩;rw [List.getElem?_append_left (List.getElem?_eq_some_iff.1 hi).1];exact hi
    | succ j =>
      refine h1 (j + l.length) S ?_;rw [List.getElem?_append_right (by omega)]
      simpa using hj
  · cases j <;> cases j'
    · rfl
    · obtain ⟨i, hi, hf⟩ := hj
      have := h2 _ _ b hf hj'; omega
    · obtain ⟨i, hi, hf⟩ := hj'
      have := h2 _ _ b hj hf; omega
    · have := h2 _ _ b hj hj'; omega
  · cases j with
    | zero => obtain ⟨i, hi, hf⟩ := hj; exact h3 i b hf
    | succ j => exact h3 _ b hj
theorem Sat.gainLast {R : Asn} {l : List Asn} (h : Sat w0 w (R :: jW l :: Rs)) : Sat w0 w (jW (l ++ [R]) :: Rs) := by
 have h1 : Sat w0 w ([jW l, R] ++ Rs) := h.pickR (l := [R, jW l]) [1, 0] (by decide) _ rfl
 have h2 : Sat w0 w (l ++ R :: Rs) := Sat.split h1
 have h3 : Sat w0 w ((l ++ [R]) ++ Rs) := by simpa using h2
 exact h3.merge
end
structure Sl where
 A : Option Addr
 n : Nat
 c : Nat
abbrev Sl.v (s : Sl) : Value := .slice s.A s.n s.c
def encI (l : List Int) : List Value := l.map fun x => .int .i64 x
theorem encI_length (l : List Int) : (encI l).length = l.length := by simp [encI]
theorem encI_snoc (l : List Int) (x : Int) : encI l ++ [.int .i64 x] = encI (l ++ [x]) := by simp [encI]
def encS (l : List Sl) : List Value := l.map Sl.v
theorem encS_length (l : List Sl) : (encS l).length = l.length := by simp [encS]
theorem encS_snoc (l : List Sl) (x : Sl) : encS l ++ [.slice x.A x.n x.c] = encS (l ++ [x]) := by simp [encS]
def bk (s : Sl) : Nat := (s.A.getD default).block
def of_ (s : Sl) : Nat := (s.A.getD default).off
structure RdI (w : World) (s : Sl) (l : List Int) : Prop where
 len : s.n = l.length
 le : l.length ≤ s.c
 rd : Kd.C (Kd.int .i64) w s.A l.length l
theorem spot_of_cell {w : World} {ad : Addr} {v : Value} (h : w.cell? (ad.add 0) = some v) : ad.spot = none := by
  simp only [Addr.add, if_true] at h
  unfold World.cell? at h
  split at h
  · split at h
    · cases h
    · rename_i hs; simpa using hs
  · cases h
section
variable {w0 w w' : World} {Rs : List Asn} {s : Sl} {l : List Int}
theorem RdI.at_ (h : RdI w s l) {j : Nat} (hj : j < l.length) : s.A = some ⟨bk s, of_ s, none⟩ ∧ w.cell? ⟨bk s, of_ s + j, none⟩ = some (.int .i64 (l.getD j 0)) := by
 obtain ⟨_, _, h3⟩ := h.rd
 have hp : 0 < l.length := by omega
 obtain ⟨ad, hA, hc⟩ := h3 hp
 have hcell : ∀ j, j < l.length → w.cell? (ad.add j) = some (.int .i64 (l.getD j 0)) := fun j hj => by
  obtain ⟨c, _, hk, hu⟩ := hc j _ (List.getElem?_eq_getElem hj)
  have e : c = [.int .i64 l[j]] := hk
  subst e
  have := hu 0 _ rfl
  simpa [Kd.int, Kd.scalar, List.getD, hj] using this
 have hspot := spot_of_cell (hcell 0 hp)
 obtain ⟨b, off, sp⟩ := ad
 subst hspot
 have := hcell j hj
 rw [add0] at this
 refine ⟨by simp [bk, of_, hA], ?_⟩
 simpa [bk, of_, hA] using this
theorem RdI.below (h : RdI w s l) (hb : Below w.heap.size w w') : RdI w' s l := ⟨h.len, h.le, Kd.C_below h.rd hb⟩
theorem RdI.sat (h : RdI w0 s l) (hS : Sat w0 w Rs) : RdI w s l := h.below hS.below
theorem RdI.big (h : RdI w s l) : l.length ≤ 9223372036854775807 := h.rd.2.1
theorem RdI.ofRow {T : TypeId} {base n : Nat} (h : w.ownsRow base T 1 s.v n (encI l)) : RdI w s l := by
  have hl : l.length = n := by have := h.1; simpa [encI] using this
  subst hl
  have hn : s.n = l.length := by
    rcases h.2 with ⟨e, h0⟩ | ⟨g, cap, cur, e, _⟩
    · have := congrArg (fun v => match v with | Value.slice _ n _ => n | _ => 0) e
      simp at this
      omega
    · have := congrArg (fun v => match v with | Value.slice _ n _ => n | _ => 0) e
      simpa using this
  have hc : l.length ≤ s.c := by
    rcases h.2 with ⟨e, h0⟩ | ⟨g, cap, cur, e, _, _, h1, _⟩
    · omega
    · have := congrArg (fun v => match v with | Value.slice _ _ c => c | _ => 0) e
      simp at this
      omega
  refine ⟨hn, hc, ?_⟩
  have h' := h
  rw [Sl.v, hn] at h'
  exact Kd.C_of_reads (d := (0 : Int)) (own_reads' h')
theorem Sat.rdRow {T : TypeId} (h : Sat w0 w Rs) (i : Nat) (hi : Rs[i]? = some (SX.row s.v T 1 (encI l))) : RdI w s l := by
 obtain ⟨n, hn⟩ := h.row i hi
 exact RdI.ofRow hn
theorem Sat.comp {Ps : List Asn} (h : Sat w0 w Rs) (hp : Sat w w' Ps) : Sat w0 w' (Ps ++ Rs) := by
  obtain ⟨hb, F, h1, h2, h3⟩ := h
  obtain ⟨hb', G, g1, g2, g3⟩ := hp
  have hs0 : w0.heap.size ≤ w.heap.size := hb.size
  refine ⟨hb.trans (hb'.mono hs0), fun j b => if j < Ps.length then G j b else F (j - Ps.length) b, fun j S hj => ?_, fun j j' b hj hj' => ?_, fun j b hj => ?_⟩
  · by_cases hl : j < Ps.length
    · rw [List.getElem?_append_left hl] at hj
      simp only [hl, if_true];exact g1 j S hj
    · rw [List.getElem?_append_right (by omega)] at hj
      simp only [hl, if_false];exact S.loc w w' _ hb'.size (h1 _ S hj) fun b hF => hb'.block b (h3 _ b hF).2
  · dsimp only at hj hj'
    split at hj <;> split at hj'
    · exact g2 _ _ b hj hj'
    · have := (g3 _ b hj).1; have := (h3 _ b hj').2; omega
    · have := (g3 _ b hj').1; have := (h3 _ b hj).2; omega
    · have := h2 _ _ b hj hj'; omega
  · dsimp only at hj
    split at hj
    · have := g3 _ b hj; omega
    · have h4 := h3 _ b hj; have h5 : w.heap.size ≤ w'.heap.size := hb'.size; omega
structure RdV (w : World) (s : Sl) (vs : List Value) : Prop where
 len : s.n = vs.length
 le : vs.length ≤ s.c
 cells : ∀ j, j < vs.length → s.A = some ⟨bk s, of_ s, none⟩ ∧ w.cell? ⟨bk s, of_ s + j, none⟩ = vs[j]?
theorem Sat.rdV {T : TypeId} {vs : List Value} (h : Sat w0 w Rs) (i : Nat) (hi : Rs[i]? = some (SX.row s.v T 1 vs)) : RdV w s vs := by
  obtain ⟨n, h1, h2⟩ := h.row i hi
  simp only [Nat.mul_one] at h1
  obtain ⟨A, sn, sc⟩ := s
  rcases h2 with ⟨e, h0⟩ | ⟨g, cap, cur, e, _, hg, h3, h4, h5, h6⟩
  · simp only [Sl.v, Value.slice.injEq] at e
    obtain ⟨rfl, rfl, rfl⟩ := e;have : vs = [] := List.eq_nil_of_length_eq_zero (by omega);subst this;exact ⟨rfl, Nat.le_refl _, fun j hj => absurd hj (Nat.not_lt_zero _)⟩
  · simp only [Sl.v, Value.slice.injEq] at e
    obtain ⟨rfl, rfl, rfl⟩ := e;refine ⟨by simp [h1], by simp only []; omega, fun j hj => ⟨rfl, ?_⟩⟩;have hc := cell_of_row w g j cur T (0, 0) hg
    show w.cell? ⟨g, 0 + j, none⟩ = vs[j]?
    rw [Nat.zero_add, hc, ← h6, List.getElem?_take];simp only [Nat.mul_one];rw [if_pos (by omega), Array.getElem?_toList]
end
def Ret (R : Value → World → Prop) : Ending → World → Prop
 | .returned v, w => R v w
 | _, _ => False
section
variable {P : Program} {R : Array Oper} {Q : Exit → Act → World → Prop} {n : Nat} {e : Env} {a : Act} {w w0 : World} {Rs : List Asn}
theorem kX {S : World → Prop} {i d : Nat} {t el : TypeId} {x ix : Operand} {ty : TypeId} {s : Sl} {sz j : Nat} {k : IntKind} (h : Has n e a) (ho : AtW R i (.indexAddr t x ix) (some d) ty a)
  (hx : ev e x = some (.slice s.A s.n s.c)) (hi : ev e ix = some (.int k (j : Int))) (ht : P.underlying t = some (.slice el)) (hs : (P.info? el).map (·.size) = some sz) (hA : s.A = some ⟨bk s, of_ s, none⟩) (h1 : j < s.n) :
  Val P R i a S d (.pointer (some ⟨bk s, of_ s + j * sz, none⟩)) := by
 have := v_index (S := S) (q := (j : Int)) (off := of_ s) (b := bk s) (len := s.n) (cap := s.c) h ho (by rw [hx, hA]) hi ht hs (by omega) (by omega)
 simpa using this
theorem kK {S : World → Prop} {i d : Nat} {t el : TypeId} {x ix : Operand} {ty : TypeId} {s : Sl} {sz j : Nat} {k : IntKind} {q : Int} (h : Has n e a) (ho : AtW R i (.indexAddr t x ix) (some d) ty a)
  (hx : ev e x = some (.slice s.A s.n s.c)) (hi : ev e ix = some (.int k q)) (ht : P.underlying t = some (.slice el)) (hs : (P.info? el).map (·.size) = some sz) (hA : s.A = some ⟨bk s, of_ s, none⟩) (hq : q = (j : Int)) (h1 : j < s.n) :
  Val P R i a S d (.pointer (some ⟨bk s, of_ s + j * sz, none⟩)) := kX h ho hx (hq ▸ hi) ht hs hA h1
structure RdL {α : Type} (P : Program) (T : TypeId) (k : Nat) (enc : α → Value) (w : World) (s : Sl) (l : List α) : Prop where
 len : s.n = l.length
 le : l.length ≤ s.c
 cells : ∀ (j : Nat) (x : α), l[j]? = some x → s.A = some ⟨bk s, of_ s, none⟩ ∧ (loadVar T ⟨bk s, of_ s + j * k, none⟩).run P w = .ok (enc x) w
theorem v_loadL {S : World → Prop} {i d : Nat} {t : TypeId} {x : Operand} {ty : TypeId} {p : Addr} {v : Value} (h : Has n e a) (ho : AtW R i (.load t x) (some d) ty a) (hx : ev e x = some (.pointer (some p)))
  (hb : ∀ w, S w → (loadVar t p).run P w = .ok v w) : Val P R i a S d v :=
 Val.of_run ho fun o w h1 h2 hS => by
  rw [exec_eq h h1 h2 (by simp [covers, Op.operands, hx, notSelect])]
  have hr := hb w hS
  simp [execOp, opr, Instr.loadAt, Instr.sureAddr, evD, hx, hr]
theorem o_make {i d : Nat} {x y : Operand} {t el ty : TypeId} {m bytes : Nat} {z : Value} {K : Act → World → Prop} (h : Has n e a) (hd : d < n) (ho : AtW R i (.makeSlice t x y) (some d) ty a) (hx : ev e x = some (.int .i64 (m : Int))) (hy : ev e y = some (.int .i64 (m : Int)))
  (ht : P.underlying t = some (.slice el)) (hinfo : (P.info? el).map (fun i => (i.zero, i.size, i.bytes)) = some (some z, 1, bytes)) (hz : z.cells = #[z]) (hb0 : 0 < bytes) (hn : m * bytes ≤ 281474976710656) (hS : Sat w0 w Rs)
  (k : ∀ b w' a', w0.heap.size ≤ b → Sat w0 w' (SX.blk b (List.replicate m z) el :: Rs) → Has n ((d, .slice (some ⟨b, 0, none⟩) m m) :: e) a' → K a' w') : wpOp P R Q i K a w := by
 have hl : madeCells #[z] m = (List.replicate m z).toArray := by
  apply Array.ext_getElem?
  intro j
  by_cases hj : j < m <;> simp [madeCells, hj, Nat.mod_one]
 refine o_new (cs := List.replicate m z) (T := el) (fun b => .slice (some ⟨b, 0, none⟩) m m) h hd ho (by simp [covers, Op.operands, hx, hy, notSelect]) hS (fun w => ?_) k
 have hr := print_make_of (P := P) t el z bytes ht hinfo hz hb0 m hn w
 rw [hl] at hr
 simp [execOp, opr, evD, hx, hy, hr]
theorem o_ret {i d f : Nat} {xs : Array Operand} {ts : Array TypeId} {ty : TypeId} {vs : List Value} {fn : Func} {Post : Value → World → Prop} {K : Act → World → Prop} (h : Has n e a) (hd : d < n)
  (ho : AtW R i (.call { callee := .value (.func f), args := xs, argTypes := ts }) (some d) ty a) (hx : xs.toList.mapM (ev e) = some vs) (hf : P.funcs[f]? = some fn) (hb : (fn.body.isNone || fn.name == "runtime.NumGoroutine") = false)
  (hcall : Calls P f vs.toArray w (Ret Post)) (kr : ∀ v w' a', Post v w' → Has n ((d, v) :: e) a' → K a' w') : wpOp P R Q i K a w :=
 o_call h hd ho hx hf hb hcall (fun v w' a' hp ha => kr v w' a' hp ha) (fun _ _ hp => hp.elim) (fun _ hp => hp)
theorem o_retF {i d f t : Nat} {cap : List Value} {xs : Array Operand} {ts : Array TypeId} {ty : TypeId} {vs : List Value} {fn : Func} {Post : Value → World → Prop} {K : Act → World → Prop} (h : Has n e a) (hd : d < n)
  (ho : AtW R i (.call { callee := .value (.tmp t), args := xs, argTypes := ts }) (some d) ty a) (hx : xs.toList.mapM (ev e) = some vs) (ht : lk e t = some (.func (.func f) #[] cap.toArray)) (hf : P.funcs[f]? = some fn) (hb : (fn.body.isNone || fn.name == "runtime.NumGoroutine") = false)
  (hcall : Calls P f (vs ++ cap).toArray w (Ret Post)) (kr : ∀ v w' a', Post v w' → Has n ((d, v) :: e) a' → K a' w') : wpOp P R Q i K a w :=
 o_callF h hd ho hx ht hf hb hcall (fun v w' a' hp ha => kr v w' a' hp ha) (fun _ _ hp => hp.elim) (fun _ hp => hp)
end
def kdP {α : Type} (B : Nat) (d : Kd α) (e : Nat) (v : Value) (l : List α) : Asn where
 says w F := (∀ k, F k → k < w.heap.size) ∧ d.R e w B F v l
 lt _ _ h k hk := h.1 k hk
 loc _ _ _ _ h hk := ⟨fun k hF => lt_of_get (hk k hF) (h.1 k hF), Kd.R_move h.2 hk⟩
section
variable {w0 w w' : World} {Rs : List Asn}
theorem Sat.kdMade {α : Type} {d : Kd α} {e : Nat} {v : Value} {l : List α} {ok : Nat → Prop} (h : Sat w0 w Rs) (hb : Below w.heap.size w w') (hR : d.R e w' w.heap.size ok v l) : Sat w0 w' (kdP w0.heap.size d e v l :: Rs) := by
 refine h.new _ hb.os hb.tape hb.output hb.size (fun b hlt => hb.block b hlt) ⟨fun k => w.heap.size ≤ k ∧ k < w'.heap.size, ⟨fun k hk => hk.2, ?_⟩, fun k hk => hk.1⟩
 exact Kd.R_lower (Kd.R_mono (Kd.R_bound hR) fun k hk => ⟨hk.2.1, hk.2.2.1⟩) h.below.size
end
theorem rows_cells {α : Type} {d : Kd α} {e : Nat} {w : World} {s : Sl} {L : List (List α)} (hr : Kd.C (Kd.slice e d) w s.A L.length L) (j : Nat) (b : List α) (hj : L[j]? = some b) :
  s.A = some ⟨bk s, of_ s, none⟩ ∧ ∃ A' c', w.cell? ⟨bk s, of_ s + j, none⟩ = some (.slice A' b.length c') ∧ b.length ≤ c' ∧ Kd.C d w A' b.length b := by
 obtain ⟨_, _, h3⟩ := hr
 have hjl : j < L.length := (List.getElem?_eq_some_iff.1 hj).1
 obtain ⟨ad, hA, hcells⟩ := h3 (by omega)
 have key : ∀ (j : Nat) (b : List α), L[j]? = some b → ∃ A' c', w.cell? (ad.add j) = some (.slice A' b.length c') ∧ b.length ≤ c' ∧ Kd.C d w A' b.length b := fun j b hj => by
  obtain ⟨cs, _, ⟨A', c', rfl, h4, h5⟩, hu⟩ := hcells j b hj
  have := hu 0 _ rfl
  exact ⟨A', c', by simpa [Kd.slice] using this, h4, h5⟩
 obtain ⟨A0, c0, h0, _⟩ := key 0 _ (List.getElem?_eq_getElem (by omega))
 have hspot := spot_of_cell h0
 obtain ⟨bb, off, sp⟩ := ad
 subst hspot
 have e1 : bk s = bb := by simp [bk, hA]
 have e2 : of_ s = off := by simp [of_, hA]
 rw [e1, e2]
 obtain ⟨A', c', h6, h7, h8⟩ := key j b hj
 rw [add0] at h6
 exact ⟨hA, A', c', h6, h7, h8⟩
end SX
namespace SX
open Go.RowKit
abbrev ptr (b o : Nat) : Value := .pointer (some ⟨b, o, none⟩)
abbrev iv (x : Int) : Value := .int .i64 x
def wantB (R : Array Oper) (o : Oper) (e : Env) : Option Bool := match o.guard with
  | none => some true
  | some (g, b) => match (R[g]?).bind (·.dst) with
    | none => none
    | some gd => match lk e gd with
      | none => none
      | some v => match v with
        | .bool c => some (c == b)
        | _ => some false
section
variable {P : Program} {R : Array Oper} {Q : Exit → Act → World → Prop} {n : Nat} {e : Env} {a : Act} {w w0 : World} {Rs : List Asn}
theorem wantB_eq {o : Oper} {t : Bool} (h : Has n e a) (hw : wantB R o e = some t) : Region.wanted o (yielded R a.tmps) = t := by
 unfold wantB at hw
 unfold Region.wanted
 cases hg : o.guard with
 | none => rw [hg] at hw; exact Option.some.inj hw
 | some gb =>
  obtain ⟨g, b⟩ := gb
  rw [hg] at hw
  simp only at hw ⊢
  cases hd : (R[g]?).bind (·.dst) with
  | none => rw [hd] at hw; cases hw
  | some gd =>
   rw [hd] at hw;simp only at hw;cases hv : lk e gd with
   | none => rw [hv] at hw; cases hw
   | some v =>
    rw [hv] at hw;have h3 := h.held _ _ hv
    have hy : yielded R a.tmps g = match v with | .bool b => some b | _ => none := by
     unfold yielded;rw [hd];simp only [Option.bind_some, h3];cases v <;> rfl
    rw [hy];cases v with
    | bool c => exact (show (some c == some b) = t from (by cases c <;> cases b <;> rfl : (some c == some b) = (c == b)).trans (Option.some.inj hw))
    | _ => exact Option.some.inj hw
def out1 (P : Program) (R : Array Oper) (i : Nat) (e : Env) (w : World) : Option (Nat × Result Next) := match R[i]? with
  | none => none
  | some o => match o.dst with
    | none => none
    | some d => match wantB R o e with
      | none => none
      | some false => some (d, .ok (.value undef) w)
      | some true => if (covers e o.op && notSelect o.op) = true then some (d, (execOp (evD e) (opr o.op o.type)).run P w) else none
def outs (P : Program) (R : Array Oper) : List (Nat × Nat × Value) → Env → World → List (Option (Nat × Result Next))
 | [], _, _ => []
 | x :: l, e, w => out1 P R x.1 e w :: outs P R l ((x.2.1, x.2.2) :: e) w
def ins (w : World) : List (Nat × Nat × Value) → List (Option (Nat × Result Next))
 | [] => []
 | x :: l => some (x.2.1, .ok (.value x.2.2) w) :: ins w l
def ext : List (Nat × Nat × Value) → Env → Env
 | [], e => e
 | x :: l, e => ext l ((x.2.1, x.2.2) :: e)
theorem val_of_out {i d : Nat} {v : Value} {S : World → Prop} (h : Has n e a) (ho : ∀ w, out1 P R i e w = some (d, .ok (.value v) w)) : Val P R i a S d v := by
  have h0 := ho default
  unfold out1 at h0
  cases hR : R[i]? with
  | none => rw [hR] at h0; cases h0
  | some o =>
    rw [hR] at h0;simp only at h0;cases hd : o.dst with
    | none => rw [hd] at h0; cases h0
    | some d' =>
      rw [hd] at h0;simp only at h0;cases hw : wantB R o e with
      | none => rw [hw] at h0; cases h0
      | some t =>
        rw [hw] at h0;have hwt := wantB_eq (R := R) h hw;cases t with
        | false =>
          simp only [Option.some.injEq, Prod.mk.injEq, Result.ok.injEq, Next.value.injEq] at h0;obtain ⟨rfl, h1, _⟩ := h0;exact ⟨⟨o, hR, hd, .inr ⟨hwt, h1.symm⟩⟩⟩
        | true =>
          by_cases hc : (covers e o.op && notSelect o.op) = true
          · simp only [hc, if_true, Option.some.injEq, Prod.mk.injEq] at h0
            obtain ⟨rfl, _⟩ := h0;refine ⟨⟨o, hR, hd, .inl ⟨hwt, fun w _ => ?_⟩⟩⟩;rw [exec_eq h rfl rfl hc];have h1 := ho w;unfold out1 at h1;simp only [hR, hd, hw, hc, if_true, Option.some.injEq, Prod.mk.injEq, true_and] at h1;exact h1
          · simp only [hc] at h0
            cases h0
theorem p_run0 (l : List (Nat × Nat × Value)) {L : List Nat} (h : Has n e a) (hd : (l.all fun x => Nat.blt x.2.1 n) = true) (hL : L.take l.length = l.map (·.1)) (hk : ∀ w, outs P R l e w = ins w l)
  (k : ∀ a', Has n (ext l e) a' → wpOps P R Q (L.drop l.length) a' w) : wpOps P R Q L a w := by
 induction l generalizing e a L with
 | nil => exact k a h
 | cons x l ih =>
  cases L with
  | nil => simp at hL
  | cons y L =>
   simp only [List.length_cons, List.take_succ_cons, List.map_cons, List.cons.injEq] at hL;obtain ⟨rfl, hL⟩ := hL;simp only [List.all_cons, Bool.and_eq_true] at hd;have h1 : ∀ w, out1 P R x.1 e w = some (x.2.1, .ok (.value x.2.2) w) := fun w => by have := hk w; simp only [outs, ins, List.cons.injEq] at this; exact this.1
   have h2 : ∀ w, outs P R l ((x.2.1, x.2.2) :: e) w = ins w l := fun w => by have := hk w; simp only [outs, ins, List.cons.injEq] at this; exact this.2
   exact p_val h (by simpa [Nat.blt_eq] using hd.1) (val_of_out h h1) fun a' h' => ih h' hd.2 hL h2 k
theorem jQ (l : List (Nat × Nat × Value)) {L : List Nat} (h : Has n e a) (k : ∀ a', Has n (ext l e) a' → wpOps P R Q (L.drop l.length) a' w)
  (hd : (l.all fun x => Nat.blt x.2.1 n) = true := by rfl) (hL : L.take l.length = l.map (·.1) := by rfl) (hk : ∀ w, outs P R l e w = ins w l := by intro _; kernel_rfl) : wpOps P R Q L a w := p_run0 l h hd hL hk k
def dset : List (Nat × Nat × Value) → Array Bool → Array Bool
 | [], l => l
 | x :: r, l => dset r (l.setIfInBounds x.1 true)
def dchk (R : Array Oper) (m : Nat) : List (Nat × Nat × Value) → Array Bool → Bool
 | [], _ => true
 | x :: r, l => (Region.free .any R l x.1 && (Region.ready .any R l).contains x.1 && !(Nat.beq x.1 m)) && dchk R m r (l.setIfInBounds x.1 true)
theorem d_run0 (r : List (Nat × Nat × Value)) {m : Nat} {F : World → Prop} {k : Nat} {l : Array Bool} (h : Has n e a) (hF : l.getD m false = true ∨ F w) (hQ : PutOK Q) (hc : (Region.noSelect R && (r.all fun x => Nat.blt x.2.1 n) && dchk R m r l) = true)
    (hk : ∀ w, outs P R r e w = ins w r) (kk : ∀ a', Has n (ext r e) a' → wpD P R Q m F k (dset r l) a' w) : wpD P R Q m F (k + r.length) l a w := by
  simp only [Bool.and_eq_true] at hc
  obtain ⟨⟨hs, hd⟩, hc⟩ := hc
  induction r generalizing e a l k with
  | nil => exact kk a h
  | cons x r ih =>
    simp only [dchk, Bool.and_eq_true, Bool.not_eq_true'] at hc;obtain ⟨⟨⟨c1, c2⟩, c3⟩, c4⟩ := hc;simp only [List.all_cons, Bool.and_eq_true] at hd;have h1 : ∀ w, out1 P R x.1 e w = some (x.2.1, .ok (.value x.2.2) w) := fun w => by have := hk w; simp only [outs, ins, List.cons.injEq] at this; exact this.1
    have h2 : ∀ w, outs P R r ((x.2.1, x.2.2) :: e) w = ins w r := fun w => by have := hk w; simp only [outs, ins, List.cons.injEq] at this; exact this.2
    refine d_pure (k := k + r.length) h (by simpa [Nat.blt_eq] using hd.1) (val_of_out h h1) hF hs (by simp only [c1, c2, c3, Bool.and_self, Bool.not_false]) hQ fun a' h' => ih h' ?_ h2 kk c4 hd.2
    rcases hF with hF | hF
    · have hne : x.1 ≠ m := fun e => by rw [e] at c3; simp at c3
      exact .inl (by rw [getD_set_ne false hne]; exact hF)
    · exact .inr hF
theorem jK (r : List (Nat × Nat × Value)) {m : Nat} {F : World → Prop} {k K : Nat} {l : Array Bool} (h : Has n e a) (hF : l.getD m false = true ∨ F w) (kk : ∀ a', Has n (ext r e) a' → wpD P R Q m F k (dset r l) a' w) (hc : (Region.noSelect R && (r.all fun x => Nat.blt x.2.1 n) && dchk R m r l) = true := by kernel_rfl)
  (hk : ∀ w, outs P R r e w = ins w r := by intro _; kernel_rfl) (hK : K = k + r.length := by rfl)
  (hQ : PutOK Q := by repeat first | with_reducible exact kV | with_reducible apply kY | with_reducible apply kU | with_reducible exact pk_bodyM | with_reducible exact pk_rnd) : wpD P R Q m F K l a w := by subst hK; exact d_run0 r h hF hQ hc hk kk
theorem Has.as (h : Has n e a) (e' : Env) (he : keep e (e'.map (·.1)) = e') : Has n e' a := h.keeps _ e' he
theorem Has.turn {v : Value} (h : Has n e a) (t : Nat) (v' : Value) (hl : lk e t = some v) (hv : v = v') : Has n ((t, v') :: e) a := by
  subst hv
  refine ⟨h.size, h.defers, fun u x hu => ?_⟩
  rw [lk_cons] at hu
  by_cases ht : t = u
  · subst ht
    simp at hu
    subst hu;exact h.held _ _ hl
  · rw [if_neg ht] at hu
    exact h.held _ _ hu
theorem jX {id : Nat} (L : List Nat) (h : wpOps P R Q L a w) (hL : List.range R.size = L := by kernel_rfl) : (Code.region id R false).wp P Q a w := by subst hL; exact wp_region h
theorem xH {id : Nat} (m N : Nat) (hS : Sat w0 w Rs) (h : ∀ w', Sat w0 w' Rs → wpD P R Q m (fun w' => Sat w0 w' Rs) N (Array.replicate N false) a w') (hm : (P.follows .mixedOrders && Nat.beq R.size N) = true := by kernel_rfl) : (Code.region id R true).wp P Q a w := by
 rw [Bool.and_eq_true] at hm
 have h1 := h _ hS.drew
 rw [← Nat.eq_of_beq_eq_true hm.2] at h1
 exact d_begin hm.1 h1
theorem Sat.rest (l : List Asn) (h : Sat w0 w (l ++ Rs)) : Sat w0 w Rs := by
 have h2 := h.pickR (l := l) [] List.nodup_nil [] rfl
 exact h2
def pickL (n : Nat) (is : List Nat) (L : List Asn) : Option (List Asn) := (is.mapM fun i => (L.take n)[i]?).map (· ++ L.drop n)
theorem Sat.pickN {L L' : List Asn} (h : Sat w0 w L) (n : Nat) (is : List Nat) (hn : is.Nodup := by decide) (he : pickL n is L = some L' := by exact rfl) : Sat w0 w L' := by
 obtain ⟨l', h1, rfl⟩ := Option.map_eq_some_iff.1 he
 rw [← List.take_append_drop n L] at h
 exact h.pickR is hn l' h1
theorem xY {id : Nat} {Rp : List Asn} (m N : Nat) (_hP : Sat w0 w Rp) (hS : Sat w0 w Rs) (h : ∀ w', Sat w0 w' Rs → wpD P R Q m (fun w' => Sat w0 w' Rp) N (Array.replicate N false) a w') (hm : (P.follows .mixedOrders && Nat.beq R.size N) = true := by kernel_rfl) : (Code.region id R true).wp P Q a w := by
 rw [Bool.and_eq_true] at hm
 have h1 := h _ hS.drew
 rw [← Nat.eq_of_beq_eq_true hm.2] at h1
 exact d_begin hm.1 h1
def ldk (P : Program) (R : Array Oper) (n i : Nat) (e : Env) : Option (Nat × Nat × Nat) := match R[i]? with
  | none => none
  | some o => match wantB R o e, o.dst, o.op with
    | some true, some d, .load t x => if (isCell P t && Nat.blt d n) = true then (match ev e x with | some (.pointer (some ⟨b, j, none⟩)) => some (d, b, j) | _ => none) else none
    | _, _, _ => none
theorem val_of_ld {i d b j : Nat} {cs : List Value} {T : TypeId} {v : Value} {S : World → Prop} (h : Has n e a) (hk : ldk P R n i e = some (d, b, j)) (hb : ∀ w, S w → w.heap[b]? = some (.cells cs.toArray T (0, 0))) (hj : cs[j]? = some v) : d < n ∧ Val P R i a S d v := by
  unfold ldk at hk
  cases hR : R[i]? with
  | none => rw [hR] at hk; cases hk
  | some o =>
    rw [hR] at hk;simp only at hk
    split at hk
    · rename_i d' t x hw hd hop
      split at hk
      · rename_i hc
        simp only [Bool.and_eq_true] at hc
        split at hk
        · rename_i b' j' hx
          simp only [Option.some.injEq, Prod.mk.injEq] at hk;obtain ⟨rfl, rfl, rfl⟩ := hk;exact ⟨by simpa [Nat.blt_eq] using hc.2, v_load h ⟨o, hR, hop, hd, rfl, wantB_eq h hw⟩ hx hc.1 hb hj⟩
        · cases hk
      · cases hk
    · cases hk
theorem jU {i d b j : Nat} {cs : List Value} {T : TypeId} {v : Value} {rest : List Nat} (h : Has n e a) (hb : w.heap[b]? = some (.cells cs.toArray T (0, 0))) (hj : cs[j]? = some v)
  (k : ∀ a', Has n ((d, v) :: e) a' → wpOps P R Q rest a' w) (hk : ldk P R n i e = some (d, b, j) := by kernel_rfl) : wpOps P R Q (i :: rest) a w :=
 have hv := val_of_ld (S := fun w' => w' = w) h hk (fun w' hw => by rw [hw]; exact hb) hj
 p_val h hv.1 hv.2 k
theorem qW {m : Nat} {F : World → Prop} (i : Nat) {d b j : Nat} {cs : List Value} {T : TypeId} {v : Value} {k : Nat} {l : Array Bool} (h : Has n e a) (hF : F w)
  (hb : ∀ w', F w' → w'.heap[b]? = some (.cells cs.toArray T (0, 0))) (hj : cs[j]? = some v)
  (kk : ∀ a', Has n ((d, v) :: e) a' → wpD P R Q m F k (l.setIfInBounds i true) a' w) (hk : ldk P R n i e = some (d, b, j) := by kernel_rfl)
  (hc : (Region.noSelect R && (Region.free .any R l i && (Region.ready .any R l).contains i && waits R m i && !(Nat.beq i m) && !(l.getD m false))) = true := by kernel_rfl)
  (hQ : PutOK Q := by repeat first | with_reducible exact kV | with_reducible apply kY | with_reducible apply kU | with_reducible exact pk_bodyM | with_reducible exact pk_rnd) : wpD P R Q m F (k + 1) l a w := by
 have hv := val_of_ld (S := F) h hk hb hj
 rw [Bool.and_eq_true] at hc
 exact d_val h hv.1 hv.2 hF hc.1 hc.2 hQ kk
def stk (P : Program) (R : Array Oper) (i : Nat) (e : Env) : Option (Nat × Nat × Value) := match R[i]? with
  | none => none
  | some o => match wantB R o e, o.dst, o.op with
    | some true, none, .store t x y => match (P.info? t).map (·.size), ev e x, ev e y with
      | some 1, some (.pointer (some ⟨b, j, none⟩)), some v => if v.oneCell' = true then some (b, j, v) else none
      | _, _, _ => none
    | _, _, _ => none
theorem qH {i : Nat} (b j : Nat) (v : Value) {cs : List Value} {T : TypeId} {K : Act → World → Prop} (p : Nat) (h : Has n e a) (hS : Sat w0 w Rs) (hp : Rs[p]? = some (SX.blk b cs T)) (hj : Nat.blt j cs.length = true)
    (k : ∀ w' a', Sat w0 w' (Rs.set p (SX.blk b (cs.set j v) T)) → Has n e a' → K a' w') (hk : stk P R i e = some (b, j, v) := by kernel_rfl) : wpOp P R Q i K a w := by
  unfold stk at hk
  cases hR : R[i]? with
  | none => rw [hR] at hk; cases hk
  | some o =>
    rw [hR] at hk;simp only at hk
    split at hk
    · rename_i t x y hw hd hop
      split at hk
      · rename_i b' j' v' hs hx hy
        split at hk
        · rename_i h1
          simp only [Option.some.injEq, Prod.mk.injEq] at hk;obtain ⟨rfl, rfl, rfl⟩ := hk;exact o_store p h ⟨o, hR, hop, hd, rfl, wantB_eq h hw⟩ hx hy h1 hs hS hp (by simpa [Nat.blt_eq] using hj) rfl k
        · cases hk
      · cases hk
    · cases hk
theorem hU {i d : Nat} {s x : Operand} {t el ty : TypeId} {v : Value} {sz bytes m c b : Nat} {xs news xs' : List Value} {z : Value} {T2 : TypeId} {K : Act → World → Prop} (p q : Nat) (h : Has n e a) (hd : d < n)
  (ho : AtW R i (.call { callee := .builtin .append, args := #[s, x], argTypes := #[t, t] }) (some d) ty a) (hs : ev e s = some v) (hx : ev e x = some (.slice (some ⟨b, 0, none⟩) m c))
  (ht : P.underlying t = some (.slice el)) (hinfo : (P.info? el).map (fun i => (i.zero, i.size, i.bytes)) = some (some z, sz, bytes)) (hz : z.cells.size = sz) (hsz : 0 < sz)
  (hS : Sat w0 w Rs) (hp : Rs[p]? = some (SX.row v el sz xs)) (hq : Rs[q]? = some (SX.blk b news T2)) (hn : news.length = m * sz) (h1 : news.all Value.oneCell' = true) (hlen : xs.length + news.length ≤ 1000000000) (hby : bytes ≤ 100000 * sz) (hxs : xs ++ news = xs')
  (k : ∀ (z : Sl) w' a', Sat w0 w' (Rs.set p (SX.row (.slice z.A z.n z.c) el sz xs')) → (z.n * sz = xs'.length) → Has n ((d, .slice z.A z.n z.c) :: e) a' → K a' w') : wpOp P R Q i K a w := by
 subst hxs
 exact o_append p q h hd ho hs hx ht hinfo hz hsz hS hp hq hn h1 hlen hby fun A nn cc w' a' hS' hnn ha' => k ⟨A, nn, cc⟩ w' a' hS' (by rw [List.length_append]; exact hnn) ha'
theorem hZ {S : World → Prop} {i d : Nat} {t : TypeId} {x : Operand} {ty : TypeId} {b : Nat} {cs : List Value} {T : TypeId} (h : Has n e a) (ho : AtW R i (.load t x) (some d) ty a) (hx : ev e x = some (.pointer (some ⟨b, 0, none⟩)))
  (ht : aggSize P t = some cs.length) (hb : ∀ w, S w → w.heap[b]? = some (.cells cs.toArray T (0, 0))) : Val P R i a S d (.agg cs.toArray) := v_loadAgg h ho hx ht hb (by rw [List.drop_zero, List.take_length])
theorem zW {i : Nat} {op : Op} {d : Option Nat} {ty : TypeId} (h : (R[i]?).map spec = some (op, d, ty, none) := by kernel_rfl) : AtW R i op d ty a := At.here h
theorem kJ {b : Bool} (h : b = false) : (!b) = true := by rw [h]; rfl
theorem zX {b : Bool} (h : b = true) : (!b) = false := by rw [h]; rfl
theorem out1_inv {i d : Nat} {r : Result Next} (h : Has n e a) (ho : out1 P R i e w = some (d, r)) (hne : r ≠ .ok (.value undef) w) : ∃ op ty, AtW R i op (some d) ty a ∧ (covers e op && notSelect op) = true ∧ (execOp (evD e) (opr op ty)).run P w = r := by
  unfold out1 at ho
  cases hR : R[i]? with
  | none => rw [hR] at ho; cases ho
  | some o =>
    rw [hR] at ho;simp only at ho;cases hd : o.dst with
    | none => rw [hd] at ho; cases ho
    | some d' =>
      rw [hd] at ho;simp only at ho;cases hw : wantB R o e with
      | none => rw [hw] at ho; cases ho
      | some t =>
        rw [hw] at ho;have hwt := wantB_eq (R := R) h hw;cases t with
        | false =>
          simp only [Option.some.injEq, Prod.mk.injEq] at ho;exact absurd ho.2.symm hne
        | true =>
          by_cases hc : (covers e o.op && notSelect o.op) = true
          · simp only [hc, if_true, Option.some.injEq, Prod.mk.injEq] at ho
            obtain ⟨rfl, h1⟩ := ho;exact ⟨o.op, o.type, ⟨o, hR, rfl, hd, rfl, hwt⟩, hc, h1⟩
          · simp only [hc] at ho
            cases ho
theorem qJ {i : Nat} (d : Nat) (cs : List Value) (T : TypeId) (f : Nat → Value) {K : Act → World → Prop} (h : Has n e a) (hS : Sat w0 w Rs) (k : ∀ b w' a', w0.heap.size ≤ b → Sat w0 w' (SX.blk b cs T :: Rs) → Has n ((d, f b) :: e) a' → K a' w')
  (hd : Nat.blt d n = true := by rfl) (hk : ∀ w, out1 P R i e w = some (d, .ok (.value (f w.heap.size)) (w.alloc (.cells cs.toArray T))) := by intro _; kernel_rfl) : wpOp P R Q i K a w := by
 obtain ⟨op, ty, ho, hc, hr⟩ := out1_inv h (hk w) (fun he => by
  injection he with _ h2
  have h3 : (w.alloc (.cells cs.toArray T)).heap.size = w.heap.size + 1 := by simp
  rw [h2] at h3
  omega)
 exact o_val h (by simpa [Nat.blt_eq] using hd) ho hc hr fun a' ha => k w.heap.size _ a' hS.below.size (hS.alloc cs T) ha
theorem zJ {rest : List Nat} {i : Nat} (d : Nat) (x : Int) (h : Has n e a) (k : ∀ a', Has n ((d, iv x) :: e) a' → wpOps P R Q rest a' w) (hd : Nat.blt d n = true := by rfl)
  (hk : ∀ w, out1 P R i e w = some (d, .ok (.value (.int .i64 (IntKind.i64.wrap x))) w) := by intro _; kernel_rfl) (hx : -9223372036854775808 ≤ x ∧ x ≤ 9223372036854775807 := by omega) : wpOps P R Q (i :: rest) a w :=
 p_val h (by simpa [Nat.blt_eq] using hd) (Val.as (val_of_out h hk) (by rw [wrap_i64 hx.1 hx.2])) k
theorem zQ {m : Nat} {F : World → Prop} (i : Nat) {d : Nat} (v : Value) {k : Nat} {l : Array Bool} (h : Has n e a) (y : Val P R i a (fun _ => True) d v) (hF : l.getD m false = true ∨ F w)
  (kk : ∀ a', Has n ((d, v) :: e) a' → wpD P R Q m F k (l.setIfInBounds i true) a' w) (hd : Nat.blt d n = true := by rfl) (hc : (Region.noSelect R && (Region.free .any R l i && (Region.ready .any R l).contains i && !(Nat.beq i m))) = true := by kernel_rfl)
  (hQ : PutOK Q := by repeat first | with_reducible exact kV | with_reducible apply kY | with_reducible apply kU | with_reducible exact pk_bodyM | with_reducible exact pk_rnd) : wpD P R Q m F (k + 1) l a w := by
 rw [Bool.and_eq_true] at hc
 exact d_pure h (by simpa [Nat.blt_eq] using hd) y hF hc.1 hc.2 hQ kk
theorem kW {m : Nat} {F : World → Prop} (i d : Nat) (x : Int) {k : Nat} {l : Array Bool} (h : Has n e a) (hF : l.getD m false = true ∨ F w)
  (kk : ∀ a', Has n ((d, iv x) :: e) a' → wpD P R Q m F k (l.setIfInBounds i true) a' w) (hd : Nat.blt d n = true := by rfl) (hc : (Region.noSelect R && (Region.free .any R l i && (Region.ready .any R l).contains i && !(Nat.beq i m))) = true := by kernel_rfl)
  (hk : ∀ w, out1 P R i e w = some (d, .ok (.value (.int .i64 (IntKind.i64.wrap x))) w) := by intro _; kernel_rfl) (hx : -9223372036854775808 ≤ x ∧ x ≤ 9223372036854775807 := by omega)
  (hQ : PutOK Q := by repeat first | with_reducible exact kV | with_reducible apply kY | with_reducible apply kU | with_reducible exact pk_bodyM | with_reducible exact pk_rnd) : wpD P R Q m F (k + 1) l a w :=
 zQ i (iv x) h (Val.as (val_of_out h hk) (by rw [wrap_i64 hx.1 hx.2])) hF kk hd hc hQ
theorem zH {m : Nat} {F : World → Prop} (i : Nat) {d : Nat} (v : Value) {k : Nat} {l : Array Bool} (h : Has n e a) (y : Val P R i a F d v) (hF : F w)
  (kk : ∀ a', Has n ((d, v) :: e) a' → wpD P R Q m F k (l.setIfInBounds i true) a' w) (hd : Nat.blt d n = true := by rfl) (hc : (Region.noSelect R && (Region.free .any R l i && (Region.ready .any R l).contains i && waits R m i && !(Nat.beq i m) && !(l.getD m false))) = true := by kernel_rfl)
  (hQ : PutOK Q := by repeat first | with_reducible exact kV | with_reducible apply kY | with_reducible apply kU | with_reducible exact pk_bodyM | with_reducible exact pk_rnd) : wpD P R Q m F (k + 1) l a w := by
 rw [Bool.and_eq_true] at hc
 exact d_val h (by simpa [Nat.blt_eq] using hd) y hF hc.1 hc.2 hQ kk
theorem xU {rest : List Nat} {i d : Nat} (v : Value) (h : Has n e a) (y : Val P R i a (fun w' => w' = w) d v) (k : ∀ a', Has n ((d, v) :: e) a' → wpOps P R Q rest a' w) (hd : Nat.blt d n = true := by rfl) : wpOps P R Q (i :: rest) a w := p_val h (by simpa [Nat.blt_eq] using hd) y k
def opk (R : Array Oper) (n i : Nat) (e : Env) : Option (Nat × Op × TypeId) := match R[i]? with
  | none => none
  | some o => match wantB R o e, o.dst with
    | some true, some d => if Nat.blt d n = true then some (d, o.op, o.type) else none
    | _, _ => none
theorem opk_at {i d : Nat} {op : Op} {ty : TypeId} (h : Has n e a) (hk : opk R n i e = some (d, op, ty)) : d < n ∧ AtW R i op (some d) ty a := by
  unfold opk at hk
  cases hR : R[i]? with
  | none => rw [hR] at hk; cases hk
  | some o =>
    rw [hR] at hk;simp only at hk
    split at hk
    · rename_i d' hw hd
      split at hk
      · rename_i hc
        simp only [Option.some.injEq, Prod.mk.injEq] at hk;obtain ⟨rfl, rfl, rfl⟩ := hk;exact ⟨by simpa [Nat.blt_eq] using hc, o, hR, rfl, hd, rfl, wantB_eq h hw⟩
      · cases hk
    · cases hk
def lwk (P : Program) (R : Array Oper) (n i : Nat) (e : Env) : Option (Nat × Nat × Nat) := match opk R n i e with
  | some (d, .load t x, _) => match ev e x, aggSize P t with
    | some (.pointer (some ⟨b, 0, none⟩)), some s => some (d, b, s)
    | _, _ => none
  | _ => none
theorem val_of_lw {i d b : Nat} {cs : List Value} {T : TypeId} {S : World → Prop} (h : Has n e a) (hk : lwk P R n i e = some (d, b, cs.length)) (hb : ∀ w, S w → w.heap[b]? = some (.cells cs.toArray T (0, 0))) : d < n ∧ Val P R i a S d (.agg cs.toArray) := by
  unfold lwk at hk
  split at hk
  · rename_i d' t x ty ho
    obtain ⟨h1, h2⟩ := opk_at h ho
    split at hk
    · rename_i b' s hx hs
      simp only [Option.some.injEq, Prod.mk.injEq] at hk;obtain ⟨rfl, rfl, rfl⟩ := hk;exact ⟨h1, hZ h h2 hx hs hb⟩
    · cases hk
  · cases hk
theorem xG {rest : List Nat} {i b : Nat} (d : Nat) {cs : List Value} {T : TypeId} (h : Has n e a) (hb : w.heap[b]? = some (.cells cs.toArray T (0, 0))) (k : ∀ a', Has n ((d, .agg cs.toArray) :: e) a' → wpOps P R Q rest a' w)
  (hk : lwk P R n i e = some (d, b, cs.length) := by kernel_rfl) : wpOps P R Q (i :: rest) a w :=
 have hv := val_of_lw (S := fun w' => w' = w) h hk (fun w' hw => by rw [hw]; exact hb)
 p_val h hv.1 hv.2 k
theorem yW {m : Nat} {F : World → Prop} (i d : Nat) {b : Nat} {cs : List Value} {T : TypeId} {k : Nat} {l : Array Bool} (h : Has n e a) (hF : F w) (hb : ∀ w', F w' → w'.heap[b]? = some (.cells cs.toArray T (0, 0)))
  (kk : ∀ a', Has n ((d, .agg cs.toArray) :: e) a' → wpD P R Q m F k (l.setIfInBounds i true) a' w) (hk : lwk P R n i e = some (d, b, cs.length) := by kernel_rfl)
  (hc : (Region.noSelect R && (Region.free .any R l i && (Region.ready .any R l).contains i && waits R m i && !(Nat.beq i m) && !(l.getD m false))) = true := by kernel_rfl)
  (hQ : PutOK Q := by repeat first | with_reducible exact kV | with_reducible apply kY | with_reducible apply kU | with_reducible exact pk_bodyM | with_reducible exact pk_rnd) : wpD P R Q m F (k + 1) l a w := by
 have hv := val_of_lw (S := F) h hk hb
 rw [Bool.and_eq_true] at hc
 exact d_val h hv.1 hv.2 hF hc.1 hc.2 hQ kk
def callk (P : Program) (R : Array Oper) (n i : Nat) (e : Env) : Option (Nat × Nat × List Value) := match opk R n i e with
  | some (d, .call ⟨.value (.func f), xs, _⟩, _) => match xs.toList.mapM (ev e), P.funcs[f]? with
    | some vs, some fn => if (fn.body.isNone || fn.name == "runtime.NumGoroutine") = true then none else some (d, f, vs)
    | _, _ => none
  | _ => none
theorem qG {i : Nat} (d : Nat) {f : Nat} {vs : List Value} {Post : Value → World → Prop} {K : Act → World → Prop} (h : Has n e a) (hcall : Calls P f vs.toArray w (Ret Post)) (kr : ∀ v w' a', Post v w' → Has n ((d, v) :: e) a' → K a' w')
    (hk : callk P R n i e = some (d, f, vs) := by kernel_rfl) : wpOp P R Q i K a w := by
  unfold callk at hk
  split at hk
  · rename_i d' f' xs _ts ty ho
    obtain ⟨h1, h2⟩ := opk_at h ho
    split at hk
    · rename_i vs' fn hx hf
      split at hk
      · cases hk
      · rename_i hb
        simp only [Option.some.injEq, Prod.mk.injEq] at hk;obtain ⟨rfl, rfl, rfl⟩ := hk;exact o_ret h h1 h2 hx hf (by cases hq : (fn.body.isNone || fn.name == "runtime.NumGoroutine") with | false => rfl | true => exact absurd hq hb) hcall kr
    · cases hk
  · cases hk
theorem o_sa {i : Nat} {t : TypeId} {x y : Operand} {ty : TypeId} {b j : Nat} {cs vs : List Value} {T : TypeId} {K : Act → World → Prop} (p : Nat) (h : Has n e a) (ho : AtW R i (.store t x y) none ty a) (hS : Sat w0 w Rs)
  (k : ∀ w' a', Sat w0 w' (Rs.set p (SX.blk b (cs.take j ++ vs ++ cs.drop (j + vs.length)) T)) → Has n e a' → K a' w')
  (hx : ev e x = some (.pointer (some ⟨b, j, none⟩)) := by exact rfl) (hy : ev e y = some (.agg vs.toArray) := by exact rfl) (h1 : vs.all Value.oneCell' = true := by exact rfl) (ht : (P.info? t).map (·.size) = some vs.length := by kernel_rfl)
  (hp : Rs[p]? = some (SX.blk b cs T) := by exact rfl) (hj : j + vs.length ≤ cs.length := by exact Nat.le_of_ble_eq_true rfl) : wpOp P R Q i K a w := kH p h ho hx hy h1 ht hS hp hj rfl k
def apk (P : Program) (R : Array Oper) (n i : Nat) (e : Env) (sz : Nat) : Option (Nat × Value × Value × TypeId) := match opk R n i e with
  | some (d, .call ⟨.builtin .append, xs, ts⟩, _) => match xs.toList, ts.toList with
    | [s, x], [t, t2] => match ev e s, ev e x, P.underlying t with
      | some v, some u, some (.slice el) => match (P.info? el).map (fun i => (i.zero, i.size, i.bytes)) with
        | some (some z, sz', bytes) => if (Nat.beq t t2 && Nat.beq sz' sz && Nat.beq z.cells.size sz && Nat.blt 0 sz && Nat.ble bytes (100000 * sz)) = true then some (d, v, u, el) else none
        | _ => none
      | _, _, _ => none
    | _, _ => none
  | _ => none
theorem o_ap {i : Nat} (d p q : Nat) (xs' : List Value) {v : Value} {el sz b : Nat} {xs news : List Value} {T2 : TypeId} {K : Act → World → Prop} (h : Has n e a) (hS : Sat w0 w Rs) (hp : Rs[p]? = some (SX.row v el sz xs)) (hq : Rs[q]? = some (SX.blk b news T2)) (hlen : xs.length + news.length ≤ 1000000000) (hxs : xs ++ news = xs')
    (k : ∀ (z : Sl) w' a', Sat w0 w' (Rs.set p (SX.row (.slice z.A z.n z.c) el sz xs')) → z.n * sz = xs'.length → Has n ((d, .slice z.A z.n z.c) :: e) a' → K a' w')
    (hk : apk P R n i e sz = some (d, v, .slice (some ⟨b, 0, none⟩) 1 1, el) := by kernel_rfl) (hn : (Nat.beq news.length sz && news.all Value.oneCell') = true := by kernel_rfl) : wpOp P R Q i K a w := by
  unfold apk at hk
  split at hk
  · rename_i d' xs0 ts0 ty ho
    obtain ⟨h1, h2⟩ := opk_at h ho
    split at hk
    · rename_i s x t t2 hx0 ht0
      split at hk
      · rename_i v' u el' hv hu hel
        split at hk
        · rename_i z sz' bytes hinfo
          split at hk
          · rename_i hc
            simp only [Option.some.injEq, Prod.mk.injEq] at hk;obtain ⟨rfl, rfl, rfl, rfl⟩ := hk;simp only [Bool.and_eq_true] at hc hn;obtain ⟨⟨⟨⟨c1, c2⟩, c3⟩, c4⟩, c5⟩ := hc;obtain rfl := Nat.eq_of_beq_eq_true c1;obtain rfl := Nat.eq_of_beq_eq_true c2;obtain rfl : xs0 = #[s, x] := Array.toList_inj.1 hx0;obtain rfl : ts0 = #[t, t] := Array.toList_inj.1 ht0;exact hU p q h h1 h2 hv hu hel hinfo (Nat.eq_of_beq_eq_true c3) (by simpa [Nat.blt_eq] using c4) hS hp hq (by rw [Nat.eq_of_beq_eq_true hn.1, Nat.one_mul]) hn.2 hlen (Nat.le_of_ble_eq_true c5) hxs k
          · cases hk
        · cases hk
      · cases hk
    · cases hk
  · cases hk
theorem zV {i t x d ty : Nat} (h : (R[i]?).map spec = some (.load t (.tmp x), some d, ty, none) := by kernel_rfl) : AtW R i (.load t (.tmp x)) (some d) ty a := At.here h
theorem qU {i t x y : Nat} (h : (R[i]?).map spec = some (.store t (.tmp x) (.tmp y), none, 0, none) := by kernel_rfl) : AtW R i (.store t (.tmp x) (.tmp y)) none 0 a := At.here h
theorem yU {i t x y d : Nat} (h : (R[i]?).map spec = some (.indexAddr t (.tmp x) (.tmp y), some d, 0, none) := by kernel_rfl) : AtW R i (.indexAddr t (.tmp x) (.tmp y)) (some d) 0 a := At.here h
theorem jH {m : Nat} {F : World → Prop} (i : Nat) {k : Nat} {l : Array Bool} (h : wpOp P R Q i (fun a' w' => ((l.setIfInBounds i true).getD m false = true ∨ F w') ∧ wpD P R Q m F k (l.setIfInBounds i true) a' w') a w)
  (hr : Region.ready .any R l = [i] := by kernel_rfl) : wpD P R Q m F (k + 1) l a w := d_one hr h
theorem xX {m : Nat} {F : World → Prop} {l : Array Bool} {k : Nat} (h : Q .normal a w) (hr : Region.ready .any R l = [] := by kernel_rfl) : wpD P R Q m F k l a w := d_end hr h k
theorem xJ {A B C : Prop} (h : C) (ha : A := by kernel_rfl) : (A ∨ B) ∧ C := ⟨.inl ha, h⟩
abbrev cr (f : Func) (i : Nat) (b : Bool) : Code := Code.region i (qQ f i) b
end
end SX
namespace SX
open Go.RowKit Go.Proofs.YtcbijhgepdedpaaW.PrintWords
section
variable {w0 w : World} {Rs : List Asn}
theorem Sat.perm_ {l1 l2 : List Asn} (hp : l1.Perm l2) : ∀ pre, Sat w0 w (pre ++ l1) → Sat w0 w (pre ++ l2) := by
 induction hp with
 | nil => exact fun _ h => h
 | cons x _ ih =>
  intro pre h
  have := ih (pre ++ [x]) (by simpa using h)
  simpa using this
 | swap x y l =>
  intro pre h
  have h1 : Sat w0 w (jW pre :: y :: x :: l) := h.merge
  have h2 : Sat w0 w (jW pre :: x :: y :: l) := h1.pickR (l := [jW pre, y, x]) [0, 2, 1] (by decide) [jW pre, x, y] rfl
  exact h2.split
 | trans _ _ ih1 ih2 => exact fun pre h => ih2 pre (ih1 pre h)
theorem Sat.perm {l1 l2 : List Asn} (h : Sat w0 w l1) (hp : l1.Perm l2) : Sat w0 w l2 := Sat.perm_ hp [] h
theorem Sat.takeOut {l1 l2 : List Asn} {A : Asn} (h : Sat w0 w (jW (l1 ++ A :: l2) :: Rs)) : Sat w0 w (A :: jW (l1 ++ l2) :: Rs) := by
 have h1 : Sat w0 w ((A :: (l1 ++ l2)) ++ Rs) := h.split.perm (List.Perm.append_right _ List.perm_middle)
 have h2 : Sat w0 w ((l1 ++ l2) ++ (A :: Rs)) := h1.perm (List.perm_middle.symm : (A :: ((l1 ++ l2) ++ Rs)).Perm ((l1 ++ l2) ++ A :: Rs))
 exact h2.merge.pickR (l := [jW (l1 ++ l2), A]) [1, 0] (by decide) [A, jW (l1 ++ l2)] rfl
theorem Sat.putIn {l1 l2 : List Asn} {A : Asn} (h : Sat w0 w (A :: jW (l1 ++ l2) :: Rs)) : Sat w0 w (jW (l1 ++ A :: l2) :: Rs) := by
 have h0 : Sat w0 w (jW (l1 ++ l2) :: A :: Rs) := h.pickR (l := [A, jW (l1 ++ l2)]) [1, 0] (by decide) [jW (l1 ++ l2), A] rfl
 have h1 : Sat w0 w ((l1 ++ l2) ++ (A :: Rs)) := h0.split
 have h2 : Sat w0 w ((l1 ++ A :: l2) ++ Rs) := h1.perm (by
  have e : ((A :: (l1 ++ l2)) ++ Rs).Perm ((l1 ++ A :: l2) ++ Rs) := List.Perm.append_right _ List.perm_middle.symm
  exact (List.perm_middle : ((l1 ++ l2) ++ (A :: Rs)).Perm (A :: ((l1 ++ l2) ++ Rs))).trans e)
 exact h2.merge
theorem Sat.takeAt {α : Type} {g : α → Asn} {l : List α} {j : Nat} {x : α} (hj : l[j]? = some x) (h : Sat w0 w (jW (l.map g) :: Rs)) : Sat w0 w (g x :: jW ((l.eraseIdx j).map g) :: Rs) := by
 have hlt := (List.getElem?_eq_some_iff.1 hj).1
 have hx : l[j] = x := (List.getElem?_eq_some_iff.1 hj).2
 have e1 : l = l.take j ++ x :: l.drop (j + 1) := by
  conv => lhs; rw [← List.take_append_drop j l, List.drop_eq_getElem_cons hlt, hx]
 have e2 : l.eraseIdx j = l.take j ++ l.drop (j + 1) := List.eraseIdx_eq_take_drop_succ l j
 rw [e2, List.map_append]
 refine Sat.takeOut ?_
 rw [e1, List.map_append, List.map_cons] at h
 exact h
theorem Sat.putAt {α : Type} {g : α → Asn} {l : List α} {j : Nat} {x y : α} (hj : l[j]? = some x) (h : Sat w0 w (g y :: jW ((l.eraseIdx j).map g) :: Rs)) : Sat w0 w (jW ((l.set j y).map g) :: Rs) := by
 have hlt := (List.getElem?_eq_some_iff.1 hj).1
 have e1 : l.set j y = l.take j ++ y :: l.drop (j + 1) := by rw [List.set_eq_take_append_cons_drop, if_pos hlt]
 have e2 : l.eraseIdx j = l.take j ++ l.drop (j + 1) := List.eraseIdx_eq_take_drop_succ l j
 rw [e2, List.map_append] at h
 rw [e1, List.map_append, List.map_cons]
 exact h.putIn
theorem Sat.front {l : List Asn} {A : Asn} (h : Sat w0 w (l ++ A :: Rs)) : Sat w0 w (A :: (l ++ Rs)) := h.perm List.perm_middle
theorem Sat.back {l : List Asn} {A : Asn} (h : Sat w0 w (A :: (l ++ Rs))) : Sat w0 w (l ++ A :: Rs) := h.perm List.perm_middle.symm
theorem Sat.comm2 {l k : List Asn} (h : Sat w0 w (l ++ (k ++ Rs))) : Sat w0 w (k ++ (l ++ Rs)) := h.perm (by
 rw [← List.append_assoc, ← List.append_assoc]
 exact List.Perm.append_right _ List.perm_append_comm)
end
def kdS {α : Type} (B : Nat) (d : Kd α) (e e' : Nat) (s : Sl) (l : List (List α)) : Asn :=
 exA fun us : { us : List (Value × List α) // us.map (·.2) = l ∧ ∀ x ∈ us, ∃ z : Sl, x.1 = z.v } => jW [SX.row s.v e' 1 (us.1.map Prod.fst), jW (us.1.map fun x => kdP B d e x.1 x.2)]
section
variable {w0 w w' : World} {Rs : List Asn} {α : Type} {d : Kd α} {e e' : Nat} {s : Sl} {l : List (List α)}
theorem Sat.openS {B : Nat} (h : Sat w0 w (kdS B d e e' s l :: Rs)) : ∃ us : List (Value × List α), us.map (·.2) = l ∧ (∀ x ∈ us, ∃ z : Sl, x.1 = z.v) ∧ Sat w0 w (SX.row s.v e' 1 (us.map Prod.fst) :: jW (us.map fun x => kdP B d e x.1 x.2) :: Rs) := by
 obtain ⟨⟨us, h1, h2⟩, h⟩ := h.open_ 0 rfl
 exact ⟨us, h1, h2, h.split⟩
theorem Sat.shutS {B : Nat} (us : List (Value × List α)) (h1 : us.map (·.2) = l) (h2 : ∀ x ∈ us, ∃ z : Sl, x.1 = z.v) (h : Sat w0 w (SX.row s.v e' 1 (us.map Prod.fst) :: jW (us.map fun x => kdP B d e x.1 x.2) :: Rs)) : Sat w0 w (kdS B d e e' s l :: Rs) := by
 have h3 := Sat.merge (l := [SX.row s.v e' 1 (us.map Prod.fst), jW (us.map fun x => kdP B d e x.1 x.2)]) h
 exact h3.shut (R := fun us : { us : List (Value × List α) // us.map (·.2) = l ∧ ∀ x ∈ us, ∃ z : Sl, x.1 = z.v } => jW [SX.row s.v e' 1 (us.1.map Prod.fst), jW (us.1.map fun x => kdP B d e x.1 x.2)]) ⟨us, h1, h2⟩ 0 rfl
structure RdS (d : Kd α) (e : Nat) (w : World) (s : Sl) (l : List (List α)) : Prop where
 len : s.n = l.length
 le : l.length ≤ s.c
 rd : Kd.C (Kd.slice e d) w s.A l.length l
theorem RdS.below (h : RdS d e w s l) (hb : Below w.heap.size w w') : RdS d e w' s l := ⟨h.len, h.le, Kd.C_below h.rd hb⟩
theorem RdS.sat (h : RdS d e w0 s l) (hS : Sat w0 w Rs) : RdS d e w s l := h.below hS.below
theorem Sat.rdS (h : Sat w0 w Rs) (i : Nat) (hi : Rs[i]? = some (kdS w0.heap.size d e e' s l)) : RdS d e w s l := by
  obtain ⟨⟨us, h1, h2⟩, h⟩ := h.open_ i hi
  obtain ⟨F, ⟨G, g1, g2, g3⟩, h4⟩ := h.at_ (i := i) (R := jW [SX.row s.v e' 1 (us.map Prod.fst), jW (us.map fun x => kdP w0.heap.size d e x.1 x.2)]) (by rw [List.getElem?_set_self (List.getElem?_eq_some_iff.1 hi).1])
  obtain ⟨_, n, hn⟩ := g3 0 _ rfl
  obtain ⟨K, k1, k2, k3⟩ := g3 1 _ rfl
  have hlu : us.length = l.length := by rw [← h1, List.length_map]
  have hnl : n = us.length := by have := hn.1; simpa using this.symm
  obtain ⟨A, m, c⟩ := s
  have key : ∀ (j : Nat) (b : List α), l[j]? = some b → ∃ A' c', (us.map Prod.fst)[j]? = some (.slice A' b.length c') ∧ b.length ≤ c' ∧ Kd.C d w A' b.length b := by
    intro j b hj;rw [← h1, List.getElem?_map] at hj;obtain ⟨x, hx, rfl⟩ := Option.map_eq_some_iff.1 hj;obtain ⟨_, hR⟩ := k3 j (kdP w0.heap.size d e x.1 x.2) (by rw [List.getElem?_map, hx]; rfl);obtain ⟨A', c', h5, h6, h7⟩ := Kd.R_reads hR;exact ⟨A', c', by rw [List.getElem?_map, hx]; exact congrArg some h5, h6, h7⟩
  rcases hn.2 with ⟨hv, h0⟩ | ⟨g, cap, cur, hv, _, hg, q3, q4, q5, q6⟩
  · simp only [Sl.v, Value.slice.injEq] at hv
    obtain ⟨rfl, rfl, rfl⟩ := hv;have hl0 : l = [] := List.eq_nil_of_length_eq_zero (by omega);subst hl0;exact ⟨rfl, Nat.le_refl _, rfl, by simp, fun h => absurd h (Nat.lt_irrefl _)⟩
  · simp only [Sl.v, Value.slice.injEq] at hv
    obtain ⟨rfl, rfl, rfl⟩ := hv;have hml : maxLen ≤ 9223372036854775807 := by decide
    refine ⟨by simp only []; omega, by simp only []; omega, rfl, by omega, fun hp => ⟨⟨g, 0, none⟩, rfl, fun j b hj => ?_⟩⟩;obtain ⟨A', c', h5, h6, h7⟩ := key j b hj;refine ⟨[.slice A' b.length c'], rfl, ⟨A', c', rfl, h6, h7⟩, fun i u hu => ?_⟩
    obtain rfl : i = 0 := by
      have := (List.getElem?_eq_some_iff.1 hu).1
      simpa using this
    obtain rfl : Value.slice A' b.length c' = u := by simpa using hu
    simp only [Kd.slice, Nat.mul_one, Nat.add_zero];have hjl : j < l.length := (List.getElem?_eq_some_iff.1 hj).1;rw [add0, Nat.zero_add, cell_of_row w g j cur e' (0, 0) hg];rw [← q6, List.getElem?_take] at h5;rw [if_pos (by omega), Array.getElem?_toList] at h5;exact h5
end
end SX
namespace SX
open Go.RowKit
section
variable {P : Program} {n : Nat} {e : Env} {a : Act} {w w0 : World} {Rs : List Asn} {fn : Func} {Z : Ending → World → Prop}
def ResIs (P : Program) (tmps : Array Value) (w : World) : ResultVar → Value → Prop
 | .tmp t, v => tmps.getD t undef = v
 | .cell t ty, v => ∃ p, tmps.getD t undef = .pointer (some p) ∧ (loadVar ty p).run P w = .ok v w
theorem yJ {t : Nat} {v : Value} (h : Has n e a) (hv : lk e t = some v) : ResIs P a.tmps w (.tmp t) v := getD_held h hv
theorem xZ {t ty b T i : Nat} {cs : List Value} (h : Has n e a) (hv : lk e t = some (.pointer (some ⟨b, 0, none⟩))) (hS : Sat w0 w Rs) (hi : Rs[i]? = some (SX.blk b cs T)) (ht : aggSize P ty = some cs.length) : ResIs P a.tmps w (.cell t ty) (.agg cs.toArray) := by
 refine ⟨_, getD_held h hv, run_loadVar_agg ht fun j u hu => ?_⟩
 rw [add0, Nat.zero_add]
 obtain ⟨F, h1, _⟩ := hS.at_ hi
 exact cell_blk h1.2 hu
def resOf (tmps : Array Value) : ResultVar → Sem Value
 | .tmp t => pure (tmps.getD t undef)
 | .cell a t => do loadVar t (← asAddr (tmps.getD a undef))
theorem resOf_run {tmps : Array Value} {r : ResultVar} {v : Value} (h : ResIs P tmps w r v) : (resOf tmps r).run P w = .ok v w := by
 cases r with
 | tmp t => simp only [ResIs] at h; simp [resOf, h]
 | cell t ty =>
  obtain ⟨p, h1, h2⟩ := h
  have h1' : tmps[t]?.getD undef = .pointer (some p) := by simpa using h1
  simp [resOf, h1', asAddr, h2]
theorem results_eq (fn : Func) (tmps : Array Value) : results fn tmps = (do let vs ← fn.results.mapM (resOf tmps); pure (if h : vs.size = 1 then vs[0] else .tuple vs)) := by
 unfold results
 congr 1
theorem qK {r1 : ResultVar} {v1 : Value} (h : Has n e a) (hr : fn.results = #[r1]) (h1 : ResIs P a.tmps w r1 v1) (k : Z (.returned v1) w) : bodyPost P fn Z .ret a w :=
 ⟨h.defers, v1, by rw [results_eq, hr]; simp [resOf_run h1], k⟩
theorem yH {r1 r2 : ResultVar} {v1 v2 : Value} (h : Has n e a) (hr : fn.results = #[r1, r2]) (h1 : ResIs P a.tmps w r1 v1) (h2 : ResIs P a.tmps w r2 v2) (k : Z (.returned (.tuple #[v1, v2])) w) : bodyPost P fn Z .ret a w :=
 ⟨h.defers, _, by rw [results_eq, hr]; simp [resOf_run h1, resOf_run h2], k⟩
theorem kQ {r1 r2 r3 : ResultVar} {v1 v2 v3 : Value} (h : Has n e a) (hr : fn.results = #[r1, r2, r3]) (h1 : ResIs P a.tmps w r1 v1) (h2 : ResIs P a.tmps w r2 v2) (h3 : ResIs P a.tmps w r3 v3) (k : Z (.returned (.tuple #[v1, v2, v3])) w) : bodyPost P fn Z .ret a w :=
 ⟨h.defers, _, by rw [results_eq, hr]; simp [resOf_run h1, resOf_run h2, resOf_run h3], k⟩
end
theorem kG {P : Program} {Q : Exit → Act → World → Prop} {a : Act} {w : World} {x y : Code} {J : Act → World → Prop} (h1 : x.wp P (Exit.then J Q) a w) (h2 : ∀ a w, J a w → y.wp P Q a w) : (Code.seq x y).wp P Q a w :=
 wp_seq (wp_mono h1 fun e a w h => by cases e <;> first | exact h2 a w h | exact h)
theorem kZ {P : Program} {Q : Exit → Act → World → Prop} {a : Act} {w : World} {x : Code} {J K : Act → World → Prop} (h1 : x.wp P (Exit.then J Q) a w) (h2 : ∀ a w, J a w → K a w) : x.wp P (Exit.then K Q) a w :=
 wp_mono h1 fun e a w h => by cases e <;> first | exact h2 a w h | exact h
section
variable {P : Program} {R : Array Oper} {Q : Exit → Act → World → Prop} {n : Nat} {e : Env} {a : Act} {w : World}
def waitsN (R : Array Oper) : Nat → Nat → Nat → Bool
  | 0, _, _ => false
  | n + 1, m, i => match R[m]? with
    | some o => o.after.any fun e => Region.binds .any e && (e.on == i || waitsN R n e.on i)
    | none => false
def closedB (R : Array Oper) (l : Array Bool) : Bool := (List.range R.size).all fun j => !(l.getD j false) || ((R[j]?).map fun o => o.after.all fun e => !(Region.binds .any e) || l.getD e.on false).getD true
def Closed (R : Array Oper) (l : Array Bool) : Prop := ∀ (j : Nat) (o : Oper), R[j]? = some o → l.getD j false = true → ∀ e ∈ o.after, Region.binds .any e = true → l.getD e.on false = true
theorem closed_of {l : Array Bool} (h : closedB R l = true) : Closed R l := by
 intro j o ho hj e he hb
 have h1 := List.all_eq_true.1 h j (List.mem_range.2 (Array.getElem?_eq_some_iff.1 ho).1)
 simp only [hj, ho, Option.map_some, Option.getD_some, Bool.not_true, Bool.false_or] at h1
 have h2 := Array.all_eq_true'.1 h1 e he
 simpa [hb] using h2
theorem closed_step {l : Array Bool} (h : Closed R l) {i : Nat} (hi : i ∈ Region.ready .any R l) : Closed R (l.setIfInBounds i true) := by
  have hm : ∀ k, l.getD k false = true → (l.setIfInBounds i true).getD k false = true := by
    intro k hk
    by_cases hki : i = k
    · subst hki
      have : i < l.size := by
        rcases Nat.lt_or_ge i l.size with h | h
        · exact h
        · simp [Array.getElem?_eq_none h] at hk
      simp [this]
    · rw [getD_set_ne false hki]; exact hk
  intro j o ho hj e he hb
  by_cases hji : i = j
  · subst hji
    obtain ⟨_, oi, hoi, hall⟩ := mem_ready.1 hi;rw [ho] at hoi
    injection hoi with hoi
    subst hoi;exact hm _ (hall e he hb)
  · rw [getD_set_ne false hji] at hj
    exact hm _ (h j o ho hj e he hb)
theorem waits_listed {l : Array Bool} (h : Closed R l) : ∀ (n m i : Nat), waitsN R n m i = true → l.getD m false = true → l.getD i false = true := by
 intro n
 induction n with
 | zero => intro m i hw; simp [waitsN] at hw
 | succ n ih =>
  intro m i hw hl
  simp only [waitsN] at hw
  cases ho : R[m]? with
  | none => simp [ho] at hw
  | some o =>
   simp only [ho] at hw;obtain ⟨e, he, hb⟩ := Array.any_eq_true'.1 hw;simp only [Bool.and_eq_true, Bool.or_eq_true, beq_iff_eq] at hb;have hl2 := h m o ho hl e he hb.1
   rcases hb.2 with h1 | h1
   · exact h1 ▸ hl2
   · exact ih _ _ h1 hl2
theorem waits_ready {l : Array Bool} (h : Closed R l) {n m i : Nat} (hw : waitsN R n m i = true) (hm : m ∈ Region.ready .any R l) : l.getD i false = true := by
 obtain ⟨_, o, ho, hall⟩ := mem_ready.1 hm
 cases n with
 | zero => simp [waitsN] at hw
 | succ n =>
  simp only [waitsN, ho] at hw
  obtain ⟨e, he, hb⟩ := Array.any_eq_true'.1 hw
  simp only [Bool.and_eq_true, Bool.or_eq_true, beq_iff_eq] at hb
  have hl2 := hall e he hb.1
  rcases hb.2 with h1 | h1
  · exact h1 ▸ hl2
  · exact waits_listed h _ _ _ h1 hl2
theorem wpD_firstN {m : Nat} {F : World → Prop} {i : Nat} {oi : Oper} {v : Value} (hi : R[i]? = some oi) (hsel : ∀ (j : Nat) (o : Oper) cs b, R[j]? = some o → o.op ≠ .select cs b)
    (hQ : ∀ c a w, Q (.panic c) (a.put oi.dst v) w → Q (.panic c) a w) (hm : waitsN R R.size m i = true) :
    ∀ (k : Nat) (l : Array Bool) (a : Act) (w : World), l.getD m false = false → Closed R l →
      (∀ j oj, R[j]? = some oj → j ≠ i → l.getD j true = false → (∀ e ∈ oj.after, Region.binds .any e = true → e.on ≠ i) → oi.apart R oj = true) →
      i ∈ Region.ready .any R l → i ≠ m → YieldsIf P R F oi v a → F w →
      wpD P R Q m F k (l.setIfInBounds i true) (a.put oi.dst v) w → wpD P R Q m F (k + 1) l a w := by
  intro k
  induction k with
  | zero =>
    intro l a w _ _ _ hr him hy hF H;refine ⟨fun h => (by rw [h] at hr; cases hr), fun j hj => ?_⟩
    by_cases hji : j = i
    · subst hji; exact hy.wpOp hi hF ⟨.inr hF, H⟩
    · have := ready_mono hj hji
      rw [H.1] at this;cases this
  | succ k ih =>
    intro l a w hlm hcl hfree hr him hy hF H;refine ⟨fun h => (by rw [h] at hr; cases hr), fun j hj => ?_⟩
    by_cases hji : j = i
    · subst hji; exact hy.wpOp hi hF ⟨.inr hF, H⟩
    · have h1 := H.2 j (ready_mono hj hji)
      obtain ⟨hjun, oj, hoj, hall⟩ := mem_ready.1 hj
      have hnot : ∀ e ∈ oj.after, Region.binds .any e = true → e.on ≠ i := fun e he hb heq => by
        have h1 := hall e he hb;have h0 := (mem_ready.1 hr).1;rw [heq] at h1
        rcases Nat.lt_or_ge i l.size with h' | h'
        · simp [h'] at h0 h1; rw [h0] at h1; cases h1
        · simp [Array.getElem?_eq_none h'] at h1
      have hjm : j ≠ m := by
        intro hjm;subst hjm;have h2 := waits_ready hcl hm hj;have h0 := (mem_ready.1 hr).1
        rcases Nat.lt_or_ge i l.size with h' | h'
        · simp [h'] at h0 h2; rw [h0] at h2; cases h2
        · simp [Array.getElem?_eq_none h'] at h2
      have h2 := wpOp_putIf hoj (hfree j oj hoj hji hjun hnot) (fun cs b => hsel i oi cs b hi) (fun cs b => hsel j oj cs b hoj) hQ hy h1
      have hfree' : ∀ k ok, R[k]? = some ok → k ≠ i → (l.setIfInBounds j true).getD k true = false →
          (∀ e ∈ ok.after, Region.binds .any e = true → e.on ≠ i) → oi.apart R ok = true := fun k ok hk hki hun hno => by
        refine hfree k ok hk hki ?_ hno
        by_cases hjk : j = k
        · subst hjk; exact hjun
        · rw [getD_set_ne true hjk] at hun; exact hun
      have hlm' : (l.setIfInBounds j true).getD m false = false := by rw [getD_set_ne false hjm]; exact hlm
      have notm : ∀ l' : Array Bool, l'.getD m false = false → l'.getD m false = true → False := fun l' h0 h1 => by rw [h0] at h1; cases h1
      refine wpOp_mono (fun a' w' h3 => ?_) h2
      have hF' : F w' := by
        rcases h3.2.1 with h4 | h4
        · exfalso
          refine notm ((l.setIfInBounds i true).setIfInBounds j true) ?_ h4;rw [getD_set_ne false hjm, getD_set_ne false him];exact hlm
        · exact h4
      refine ⟨.inr hF', ih (l.setIfInBounds j true) a' w' hlm' (closed_step hcl hj) hfree' (ready_mono hr (Ne.symm hji)) him h3.1 hF' ?_⟩;rw [Array.setIfInBounds_comm _ _ hji];exact h3.2.2
theorem d_valN {m : Nat} {F : World → Prop} {i d : Nat} {v : Value} {k : Nat} {l : Array Bool} (h : Has n e a) (hd : d < n) (y : Val P R i a F d v) (hF : F w)
    (hs : Region.noSelect R = true) (hf : (Region.free .any R l i && (Region.ready .any R l).contains i && waitsN R R.size m i && !(Nat.beq i m) && !(l.getD m false) && closedB R l) = true)
    (hQ : PutOK Q)
    (kk : ∀ a', Has n ((d, v) :: e) a' → wpD P R Q m F k (l.setIfInBounds i true) a' w) : wpD P R Q m F (k + 1) l a w := by
  obtain ⟨o, h1, h2, h3⟩ := y.out
  simp only [Bool.and_eq_true, Bool.not_eq_true'] at hf
  obtain ⟨⟨⟨⟨⟨hf1, hf2⟩, hf3⟩, hf4⟩, hf5⟩, hf6⟩ := hf
  have him : i ≠ m := fun e => by subst e; simp at hf4
  exact wpD_firstN h1 (Region.noSelect_spec hs) (fun c a' w' hq => hQ c _ _ a' w' hq) hf3 k l a w hf5 (closed_of hf6) (Region.free_spec h1 hf1) (by simpa using hf2) him h3 hF
    (by rw [h2]; exact kk _ (h.put d v hd))
theorem d_ldN {m : Nat} {F : World → Prop} (i : Nat) {d b j : Nat} {cs : List Value} {T : TypeId} {v : Value} {k : Nat} {l : Array Bool} (h : Has n e a) (hF : F w)
  (hb : ∀ w', F w' → w'.heap[b]? = some (.cells cs.toArray T (0, 0))) (hj : cs[j]? = some v)
  (kk : ∀ a', Has n ((d, v) :: e) a' → wpD P R Q m F k (l.setIfInBounds i true) a' w) (hk : ldk P R n i e = some (d, b, j) := by kernel_rfl)
  (hc : (Region.noSelect R && (Region.free .any R l i && (Region.ready .any R l).contains i && waitsN R R.size m i && !(Nat.beq i m) && !(l.getD m false) && closedB R l)) = true := by kernel_rfl)
  (hQ : PutOK Q := by repeat first | with_reducible exact kV | with_reducible apply kY | with_reducible apply kU | with_reducible exact pk_bodyM | with_reducible exact pk_rnd) : wpD P R Q m F (k + 1) l a w := by
 have hv := val_of_ld (S := F) h hk hb hj
 rw [Bool.and_eq_true] at hc
 exact d_valN h hv.1 hv.2 hF hc.1 hc.2 hQ kk
end
theorem flat_length {α : Type} {enc : α → List Value} {sz : Nat} (hsz : ∀ x, (enc x).length = sz) (l : List α) : (l.flatMap enc).length = l.length * sz := by
 induction l with
 | nil => simp
 | cons x l ih => simp only [List.flatMap_cons, List.length_append, List.length_cons, hsz, ih]; rw [Nat.add_mul]; omega
theorem flat_get {α : Type} {enc : α → List Value} {sz : Nat} (hsz : ∀ x, (enc x).length = sz) {l : List α} {j o : Nat} {x : α} (hj : l[j]? = some x) (ho : o < sz) : (l.flatMap enc)[j * sz + o]? = (enc x)[o]? := by
 induction l generalizing j with
 | nil => simp at hj
 | cons y l ih =>
  cases j with
  | zero =>
   simp only [List.getElem?_cons_zero, Option.some.injEq] at hj;subst hj;simp only [List.flatMap_cons, Nat.zero_mul, Nat.zero_add];rw [List.getElem?_append_left (by rw [hsz]; exact ho)]
  | succ j =>
   simp only [List.getElem?_cons_succ] at hj;simp only [List.flatMap_cons];rw [List.getElem?_append_right (by rw [hsz, Nat.add_mul]; omega), hsz, show (j + 1) * sz + o - sz = j * sz + o from by rw [Nat.add_mul]; omega];exact ih hj
theorem flat_set {α : Type} {enc : α → List Value} {sz : Nat} (hsz : ∀ x, (enc x).length = sz) {l : List α} {j o : Nat} {x x' : α} {v : Value} (hj : l[j]? = some x) (ho : o < sz) (he : (enc x).set o v = enc x') : (l.flatMap enc).set (j * sz + o) v = (l.set j x').flatMap enc := by
 induction l generalizing j with
 | nil => simp at hj
 | cons y l ih =>
  cases j with
  | zero =>
   simp only [List.getElem?_cons_zero, Option.some.injEq] at hj;subst hj;simp only [List.flatMap_cons, Nat.zero_mul, Nat.zero_add, List.set_cons_zero];rw [List.set_append_left _ _ (by rw [hsz]; exact ho), he]
  | succ j =>
   simp only [List.getElem?_cons_succ] at hj;simp only [List.flatMap_cons, List.set_cons_succ];rw [List.set_append_right _ _ (by rw [hsz, Nat.add_mul]; omega), hsz, show (j + 1) * sz + o - sz = j * sz + o from by rw [Nat.add_mul]; omega, ih hj]
theorem modify_get {α : Type} {l : List α} {j : Nat} {x : α} (hj : l[j]? = some x) (g : α → α) : l.modify j g = l.set j (g x) := by
  apply List.ext_getElem?
  intro i
  rw [List.getElem?_modify, List.getElem?_set]
  have hlt : j < l.length := (List.getElem?_eq_some_iff.1 hj).1
  by_cases h : j = i
  · subst h
    rw [hj]
    simp [hlt]
  · simp [h]
theorem set_get {α : Type} {l : List α} {j : Nat} {x : α} (hj : l[j]? = some x) (y : α) : (l.set j y)[j]? = some y := by
 rw [List.getElem?_set_self (List.getElem?_eq_some_iff.1 hj).1]
theorem get_int {α : Type} (l : List α) {i : Int} (h0 : 0 ≤ i) (h1 : i < l.length) : ∃ x, l[i.toNat]? = some x := ⟨l[i.toNat]'(by omega), List.getElem?_eq_getElem _⟩
structure RdC (w : World) (s : Sl) (vs : List Value) : Prop where
 cells : ∀ (j : Nat) (u : Value), vs[j]? = some u → w.cell? ⟨bk s, j, none⟩ = some u
section
variable {w0 w : World} {Rs : List Asn} {s : Sl} {T : TypeId} {sz : Nat} {vs : List Value}
theorem Sat.rdC (h : Sat w0 w Rs) (i : Nat) (hi : Rs[i]? = some (SX.row s.v T sz vs)) : RdC w s vs := by
  obtain ⟨n, h1, h2⟩ := h.row i hi
  obtain ⟨A, sn, sc⟩ := s
  refine ⟨fun j u hu => ?_⟩
  have hlt := (List.getElem?_eq_some_iff.1 hu).1
  rcases h2 with ⟨e, h0⟩ | ⟨g, cap, cur, e, _, hg, h3, h4, h5, h6⟩
  · subst h0
    simp at h1
    subst h1
    simp at hlt
  · simp only [Sl.v, Value.slice.injEq] at e
    obtain ⟨rfl, rfl, rfl⟩ := e;have hc := cell_of_row w g j cur T (0, 0) hg
    show w.cell? ⟨g, j, none⟩ = some u
    rw [hc, ← Array.getElem?_toList];rw [← h6, List.getElem?_take] at hu
    split at hu
    · exact hu
    · cases hu
theorem Sat.rowA (h : Sat w0 w Rs) (i : Nat) (hi : Rs[i]? = some (SX.row s.v T sz vs)) (hne : 0 < vs.length) : s.A = some ⟨bk s, 0, none⟩ := by
  obtain ⟨n, h1, h2⟩ := h.row i hi
  obtain ⟨A, sn, sc⟩ := s
  rcases h2 with ⟨e, h0⟩ | ⟨g, cap, cur, e, _⟩
  · subst h0; omega
  · simp only [Sl.v, Value.slice.injEq] at e
    obtain ⟨rfl, rfl, rfl⟩ := e
    rfl
theorem Sat.rowN (h : Sat w0 w Rs) (i : Nat) (hi : Rs[i]? = some (SX.row s.v T sz vs)) : vs.length = s.n * sz := by
  obtain ⟨n, h1, h2⟩ := h.row i hi
  obtain ⟨A, sn, sc⟩ := s
  rcases h2 with ⟨e, h0⟩ | ⟨g, cap, cur, e, _⟩
  · simp only [Sl.v, Value.slice.injEq] at e
    obtain ⟨rfl, rfl, rfl⟩ := e;subst h0;exact h1
  · simp only [Sl.v, Value.slice.injEq] at e
    obtain ⟨rfl, rfl, rfl⟩ := e;exact h1
theorem Sat.rowL {α : Type} {enc : α → List Value} {l : List α} (h : Sat w0 w Rs) (i : Nat) (hsz : ∀ x, (enc x).length = sz) (h0 : 0 < sz) (hi : Rs[i]? = some (SX.row s.v T sz (l.flatMap enc))) : s.n = l.length := by
 have := h.rowN i hi
 rw [flat_length hsz] at this
 exact (Nat.eq_of_mul_eq_mul_right h0 this).symm
end
section
variable {P : Program} {R : Array Oper} {Q : Exit → Act → World → Prop} {n : Nat} {e : Env} {a : Act} {w w0 : World} {Rs : List Asn}
theorem xW {S : World → Prop} {i d : Nat} {t el : TypeId} {x ix : Operand} {ty : TypeId} {s : Sl} {sz j : Nat} {k : IntKind} {q : Int} (h : Has n e a) (ho : AtW R i (.indexAddr t x ix) (some d) ty a)
  (hx : ev e x = some (.slice s.A s.n s.c)) (hi : ev e ix = some (.int k q)) (ht : P.underlying t = some (.slice el)) (hs : (P.info? el).map (·.size) = some sz) (hA : s.A = some ⟨bk s, 0, none⟩) (hq : q = (j : Int)) (h1 : j < s.n) :
  Val P R i a S d (.pointer (some ⟨bk s, j * sz, none⟩)) := by
 subst hq
 have := v_index (S := S) (q := (j : Int)) (off := 0) (b := bk s) (len := s.n) (cap := s.c) h ho (by rw [hx, hA]) hi ht hs (by omega) (by omega)
 simpa using this
theorem zZ {i : Nat} {t : TypeId} {x y : Operand} {ty : TypeId} {j sz : Nat} {s : Sl} {xs xs' : List Value} {T : TypeId} {v : Value} {K : Act → World → Prop} (p : Nat) (h : Has n e a) (ho : AtW R i (.store t x y) none ty a)
  (hx : ev e x = some (.pointer (some ⟨bk s, j, none⟩))) (hy : ev e y = some v) (h1 : v.oneCell' = true) (ht : (P.info? t).map (·.size) = some 1) (hS : Sat w0 w Rs) (hp : Rs[p]? = some (SX.row s.v T sz xs)) (hj : j < xs.length) (hcs : xs.set j v = xs')
  (k : ∀ w' a', Sat w0 w' (Rs.set p (SX.row s.v T sz xs')) → Has n e a' → K a' w') : wpOp P R Q i K a w := by
 have hne : xs ≠ [] := fun e => by rw [e] at hj; exact absurd hj (Nat.not_lt_zero _)
 obtain ⟨g, m, cap, cur, e1, h2, h3, h4, h5, hS2⟩ := hS.openRow p hp hne
 have hb : bk s = g := by
  obtain ⟨A, sn, sc⟩ := s
  simp only [Sl.v, Value.slice.injEq] at e1
  obtain ⟨rfl, rfl, rfl⟩ := e1
  rfl
 have hpl : p < Rs.length := (List.getElem?_eq_some_iff.1 hp).1
 refine o_store (cs := xs ++ cur) (cs' := xs' ++ cur) (b := bk s) p h ho hx hy h1 ht hS2 (by rw [hb, List.getElem?_set_self hpl]) (by rw [List.length_append]; omega) (by rw [List.set_append_left _ _ hj, hcs]) fun w' a' hS' ha' => k w' a' ?_ ha'
 rw [List.set_set, hb] at hS'
 have hl : xs'.length = xs.length := by rw [← hcs, List.length_set]
 have := hS'.shutRow (n := m) (sz := sz) p (by rw [List.getElem?_set_self hpl]) (by rw [hl]; exact h2) h3 h4 (by rw [List.length_append] at h5 ⊢; rw [hl]; exact h5)
 rw [List.set_set, ← e1] at this
 exact this
theorem v_takeZ {S : World → Prop} {i d : Nat} {t el : TypeId} {x y : Operand} {ty : TypeId} {A : Option Addr} {m c j : Nat} {q : Int} (h : Has n e a) (ho : AtW R i (.slice t x none (some y) none) (some d) ty a)
  (hx : ev e x = some (.slice A m c)) (hy : ev e y = some (.int .i64 q)) (ht : P.underlying t = some (.slice el)) (hs : ((P.info? el).map (·.size)).isSome = true) (hq : q = (j : Int)) (hj : j ≤ m) (hm : m ≤ c) :
  Val P R i a S d (.slice A j c) :=
 Val.of_run ho fun o w h1 h2 hS => by
  subst hq
  rw [exec_eq h h1 h2 (by simp [covers, Op.operands, hx, hy, notSelect])]
  obtain ⟨sz, hsz⟩ := Option.isSome_iff_exists.1 hs
  obtain ⟨ti, hti, _⟩ := Option.map_eq_some_iff.1 hsz
  have hA : A.map (fun a => a.add 0) = A := by cases A <;> simp [Addr.add]
  simp [execOp, opr, evD, hx, hy, Instr.sliceAt, Instr.slice, underlying, ht, Instr.sliceBounds, Instr.sliceBound, asIntOf, sizeOf, typeInfo, hti, hA]
  exact fun hh => absurd hh (by omega)
end
theorem Sat.rowTake {w0 w : World} {Rs : List Asn} {A : Option Addr} {n c : Nat} {T : TypeId} {sz : Nat} {xs : List Value} (h : Sat w0 w Rs) (i : Nat) (hi : Rs[i]? = some (SX.row (.slice A n c) T sz xs)) (j : Nat) (hj : j ≤ n) : Sat w0 w (Rs.set i (SX.row (.slice A j c) T sz (xs.take (j * sz)))) := by
  refine h.turn hi _ fun F hF => ?_
  obtain ⟨h1, m, h2, h3⟩ := hF
  rcases h3 with ⟨e, h0⟩ | ⟨g, cap, cur, e, hb, hg, h4, h5, h6, h7⟩
  · simp only [Value.slice.injEq] at e
    obtain ⟨rfl, rfl, rfl⟩ := e;obtain rfl : j = 0 := by omega
    exact ⟨h1, 0, by simp, .inl ⟨rfl, rfl⟩⟩
  · simp only [Value.slice.injEq] at e
    obtain ⟨rfl, rfl, rfl⟩ := e;have hjm : j * sz ≤ n * sz := Nat.mul_le_mul_right _ hj;refine ⟨fun k => by rw [h1 k]; simp [Value.ownBlock], j, by rw [List.length_take]; omega, .inr ⟨g, c, cur, rfl, hb, hg, by omega, h5, h6, ?_⟩⟩;rw [← h7, List.take_take, Nat.min_eq_left hjm]
theorem flat_take {α : Type} {enc : α → List Value} {sz : Nat} (hsz : ∀ x, (enc x).length = sz) (l : List α) (j : Nat) : (l.flatMap enc).take (j * sz) = (l.take j).flatMap enc := by
 induction l generalizing j with
 | nil => simp
 | cons x l ih =>
  cases j with
  | zero => simp
  | succ j =>
   simp only [List.flatMap_cons, List.take_succ_cons];rw [List.take_append, hsz, show (j + 1) * sz - sz = j * sz from by rw [Nat.add_mul]; omega, ih, List.take_of_length_le (by rw [hsz, Nat.add_mul]; omega)]
theorem Sat.blk0 {w0 w : World} {Rs : List Asn} (h : Sat w0 w Rs) {b : Nat} {T : TypeId} (sz : Nat) (i : Nat) (hi : Rs[i]? = some (SX.blk b [] T)) : Sat w0 w (Rs.set i (SX.row (.slice (some ⟨b, 0, none⟩) 0 0) T sz [])) := by
 refine h.turn hi _ fun F hF => ⟨fun k => ?_, 0, by simp, .inr ⟨b, 0, #[], rfl, Nat.zero_le _, hF.2, Nat.le_refl _, by decide, by simp, by simp⟩⟩
 rw [hF.1 k]
 simp [Value.ownBlock, eq_comm]
section
variable {P : Program} {R : Array Oper} {Q : Exit → Act → World → Prop} {n : Nat} {e : Env} {a : Act} {w w0 : World} {Rs : List Asn}
theorem o_appRow0 {i d : Nat} {s x : Operand} {t el ty : TypeId} {sz bytes m un c b : Nat} {A : Option Addr} {ys ys' : List Value} {z : Value} {K : Act → World → Prop} (p q : Nat) (h : Has n e a) (hd : d < n)
    (ho : AtW R i (.call { callee := .builtin .append, args := #[s, x], argTypes := #[t, t] }) (some d) ty a) (hs : ev e s = some (.slice (some ⟨b, 0, none⟩) 0 0)) (hx : ev e x = some (.slice A m c))
    (ht : P.underlying t = some (.slice el)) (hinfo : (P.info? el).map (fun i => (i.zero, i.size, i.bytes)) = some (some z, sz, bytes)) (hz : z.cells.size = sz) (hsz : 0 < sz)
    (hS : Sat w0 w Rs) (hp : Rs[p]? = some (SX.blk b [] el)) (hq : Rs[q]? = some (SX.row (.slice A un c) el sz ys)) (hm : m ≤ un) (h1 : ys.all Value.oneCell' = true) (hlen : ys.length ≤ 1000000000) (hby : bytes ≤ 100000 * sz) (hys : ys.take (m * sz) = ys')
    (k : ∀ (z : Sl) w' a', Sat w0 w' (Rs.set p (SX.row (.slice z.A z.n z.c) el sz ys')) → z.n * sz = ys'.length → Has n ((d, .slice z.A z.n z.c) :: e) a' → K a' w') : wpOp P R Q i K a w := by
  obtain ⟨i0, hi, hzz⟩ := Option.map_eq_some_iff.1 hinfo
  simp only [Prod.mk.injEq] at hzz
  obtain ⟨hz0, hz1, hz2⟩ := hzz
  have hpl : p < Rs.length := (List.getElem?_eq_some_iff.1 hp).1
  have hS1 := hS.blk0 sz p hp
  have hown0 := hS1.row p (by rw [List.getElem?_set_self hpl])
  obtain ⟨n0, hown⟩ := hown0
  have hn0 : n0 = 0 := by
    have h9 := hown.1;simp only [List.length_nil] at h9
    rcases Nat.eq_zero_or_pos n0 with h0 | h0
    · exact h0
    · have := Nat.mul_pos h0 hsz; omega
  subst hn0
  obtain ⟨us, g1, g2⟩ := hS.row q hq
  rcases g2 with ⟨ev0, hus⟩ | ⟨g, cap, cur, ev0, _, hg, g3, g4, g5, g6⟩
  · simp only [Value.slice.injEq] at ev0
    obtain ⟨rfl, rfl, rfl⟩ := ev0;obtain rfl : m = 0 := by omega
    have hr := run_append_owned_none (P := P) (w := w) 0 t ty el i0 sz ht hi _ _ _ hown
    have hrun : (execOp (evD e) (opr (.call { callee := .builtin .append, args := #[s, x], argTypes := #[t, t] }) ty)).run P w = .ok (.value (.slice (some ⟨b, 0, none⟩) 0 0)) w := by
      simp [execOp, opr, resolve, invoke, builtin, evD, hs, hx, hr]
    simp only [Nat.zero_mul, List.take_zero] at hys;subst hys;exact o_val h hd ho (by simp [covers, Op.operands, Call.operands, hs, hx, notSelect]) hrun fun a' ha => k ⟨some ⟨b, 0, none⟩, 0, 0⟩ w a' hS1 (by simp) ha
  · simp only [Value.slice.injEq] at ev0
    obtain ⟨rfl, rfl, rfl⟩ := ev0;have hle : m * sz ≤ un * sz := Nat.mul_le_mul_right _ hm;have hl : ys'.length = m * sz := by rw [← hys, List.length_take]; omega
    have hcells : ∀ j u, ys'[j]? = some u → w.cell? ((⟨g, 0, none⟩ : Addr).add j) = some u := fun j u hu => by
      rw [add0, Nat.zero_add, cell_of_row w g j cur el (0, 0) hg, ← Array.getElem?_toList];rw [← hys, List.getElem?_take] at hu
      split at hu
      · rw [← g6, List.getElem?_take] at hu
        split at hu
        · exact hu
        · cases hu
      · cases hu
    have hm1 : m ≤ 1000000000 := Nat.le_trans (Nat.le_mul_of_pos_right _ hsz) (by omega)
    have hbytes : (0 + m) * bytes ≤ 140737488355328 := by
      have h2 : m * bytes ≤ m * (100000 * sz) := Nat.mul_le_mul_left _ hby;have h3 : m * (100000 * sz) = 100000 * (m * sz) := by rw [Nat.mul_left_comm]
      rw [Nat.zero_add]
      omega
    have h1' : ∀ u ∈ ys', u.oneCell' = true := fun u hu => List.all_eq_true.1 h1 u (List.mem_of_mem_take (hys ▸ hu));obtain ⟨v', w', hr, h2, h3, h4, h5⟩ := run_append_own_at (P := P) w 0 t ty el i0 z sz bytes ht hi hz0 hz1 hz2 hz hsz _ 0 [] hown ⟨g, 0, none⟩ m c ys' hl hcells h1' (by simp only [maxLen]; omega) hbytes (Nat.zero_le _)
    have hrun : (execOp (evD e) (opr (.call { callee := .builtin .append, args := #[s, x], argTypes := #[t, t] }) ty)).run P w = .ok (.value v') w' := by
      simp [execOp, opr, resolve, invoke, builtin, evD, hs, hx, hr]
    have hS' : Sat w0 w' (Rs.set p (SX.row v' el sz ys')) := by
      have h9 := hS1.upd (i := p) (R := SX.row (.slice (some ⟨b, 0, none⟩) 0 0) el sz []) (w' := w') (by rw [List.getElem?_set_self hpl]) (SX.row v' el sz ys') h3.os h3.tape h3.output h3.size fun F hF => ⟨fun k => v'.ownBlock = some k, ⟨fun _ => Iff.rfl, _, by simpa using h2⟩, fun k hk => ?_, fun k hk hF' => h3.block k hk fun e => hF' ((hF.1 k).2 e.symm)⟩
      · rwa [List.set_set] at h9
      · rcases h5 with h5 | h5
        · exact .inl ((hF.1 k).2 (by rw [← h5]; exact hk))
        · rw [h5] at hk
          injection hk with hk
          exact .inr (by omega)
    obtain ⟨A, nn, cc, rfl, hnn⟩ : ∃ A nn cc, v' = .slice A nn cc ∧ nn = 0 + m := by
      rcases h2.2 with ⟨rfl, hn0⟩ | ⟨g, cap, cur, rfl, _⟩
      · exact ⟨none, 0, 0, rfl, hn0.symm⟩
      · exact ⟨_, _, cap, rfl, rfl⟩
    refine o_val h hd ho (by simp [covers, Op.operands, Call.operands, hs, hx, notSelect]) hrun fun a' ha => k ⟨A, nn, cc⟩ w' a' hS' ?_ ha;simp only [hnn, Nat.zero_add, hl]
end
structure Stp where
 k : Int
 a : Int
 b : Int
deriving DecidableEq
structure CallI where
 fn : Int
 par : Int
 dfr : Bool
 en : Int
 val : Int
 arg : Int
structure PanI where
 call : Int
 fn : Int
 value : Int
 depth : Int
 fate : Int
 by_ : Int
 last : Int
 again : Bool
 unw : List Int
structure MS where
 made : Int
 shared : Int
 depth : Int
 deepest : Int
 trace : List (Int × Int × Int)
 owners : List Int
 calls : List CallI
 panics : List PanI
 recs : List (Int × Int × Int)
 places : List (Int × Int)
structure FS where
 id : Int
 fn : Int
 r0 : Int
 r1 : Int
 r2 : Int
 r3 : Int
 runs : List (Int × Int)
 dfr : Bool
 cnt : Bool
 lvg : Bool
 en : Int
 pan : Int
def g4 (a b c d r : Int) : Int := if r = 0 then a else if r = 1 then b else if r = 2 then c else d
def u4 (old x : Int) (k r : Int) : Int := if r = k then x else old
def FS.get (f : FS) (r : Int) : Int := g4 f.r0 f.r1 f.r2 f.r3 r
def FS.set (f : FS) (r x : Int) : FS := { f with r0 := u4 f.r0 x 0 r, r1 := u4 f.r1 x 1 r, r2 := u4 f.r2 x 2 r, r3 := u4 f.r3 x 3 r }
def w16 (x : Int) : Int := IntKind.i16.wrap x
def MS.tell (m : MS) (k fn v owner : Int) : MS := { m with trace := m.trace ++ [(k, fn, v)], owners := m.owners ++ [owner] }
def MS.enter (m : MS) (fn arg up : Int) (dfr : Bool) : MS :=
 let m1 : MS := { m with calls := m.calls ++ [{ fn := fn, par := up, dfr := dfr, en := 4, val := 0, arg := arg }] }
 let m2 := m1.tell (if dfr = true then 3 else 1) fn arg m.calls.length
 { m2 with depth := m.depth + 1, deepest := max m.deepest (m.depth + 1) }
def MS.frame (m : MS) (fn arg : Int) (dfr : Bool) : FS := { id := m.calls.length, fn := fn, r0 := arg, r1 := 0, r2 := 0, r3 := 0, runs := [], dfr := dfr, cnt := false, lvg := false, en := 1, pan := -1 }
def panAt (l : List PanI) (i : Int) (g : PanI → PanI) : List PanI := l.modify i.toNat g
def PanI.zero : PanI := { call := 0, fn := 0, value := 0, depth := 0, fate := 0, by_ := 0, last := 0, again := false, unw := [] }
def panVal (l : List PanI) (i : Int) : Int := (l.getD i.toNat PanI.zero).value
inductive R3 where
 | spent (m : MS)
 | done (m : MS) (f : FS) (o : Int)
inductive RB where
 | spent (m : MS)
 | go (m : MS) (f : FS) (o : Int) (ends : Bool)
abbrev CallT := MS → Int → Int → Option FS → Int → Bool → R3
def canRec (f : FS) (p : Option FS) : Bool := f.dfr && !f.cnt && (match p with | some q => decide (q.en = 2) | none => false)
def recM (m : MS) (f q : FS) : MS :=
 ({ m with panics := panAt m.panics q.pan (fun x => { x with fate := 1 }), recs := m.recs ++ [(f.id, q.id, q.pan)] } : MS).tell 6 f.fn (panVal m.panics q.pan) f.id
def recF (m : MS) (f q : FS) (r : Int) : FS := { ({ f with cnt := true } : FS).set r (panVal m.panics q.pan) with r3 := 1 }
def recNo (f : FS) (r : Int) : FS := { f.set r 0 with r3 := 0 }
def zY (m : MS) (f : FS) (p : Option FS) (r : Int) : MS × FS :=
 match p with
 | some q => if canRec f p = true then (recM m f q, recF m f q r) else (m, recNo f r)
 | none => (m, recNo f r)
def stepS (call : CallT) (m : MS) (f : FS) (p : Option FS) (o : Int) (s : Stp) : RB :=
  if s.k = 1 then .go m (f.set s.a s.b) o false
  else if s.k = 2 then .go m (f.set s.a (w16 (f.get s.a + f.get s.b))) o false
  else if s.k = 3 then .go (m.tell 4 f.fn (f.get s.a) f.id) f o false
  else if s.k = 4 then
    match call m s.a (f.get s.b) (some f) f.r1 false with
    | .spent m => .spent m
    | .done m d o1 =>
      let f1 : FS := { f with r1 := o1, lvg := f.lvg || d.lvg }
      if d.en = 1 then .go m { f1 with r2 := d.r1 } o false
      else .go m { f1 with en := d.en, pan := d.pan } o true
  else if s.k = 5 then .go (m.tell 2 s.a (f.get s.b) f.id) { f with runs := f.runs ++ [(s.a, f.get s.b)] } o false
  else if s.k = 6 then
    .go (({ m with panics := m.panics ++ [{ call := f.id, fn := f.fn, value := f.get s.a, depth := m.depth, fate := 0, by_ := -1, last := -1, again := f.cnt, unw := [] }] } : MS).tell 5 f.fn (f.get s.a) f.id)
      { f with en := 2, pan := m.panics.length } o true
  else if s.k = 7 then .go (zY m f p s.a).1 (zY m f p s.a).2 o false
  else if s.k = 8 then .go m { f with r1 := f.get s.a } o true
  else if s.k = 9 then .go m f (if f.dfr = true then f.get s.a else o) false
  else if s.k = 10 then .go m { f with lvg := true, en := 3 } o true
  else if s.k = 12 then .go { m with shared := f.get s.a } f o false
  else if s.k = 13 then .go m (f.set s.a m.shared) o false
  else .go m f o false
def MS.step (m : MS) (fn : Int) (at_ : Nat) : MS := { m with made := m.made + 1, places := m.places ++ [(fn, (at_ : Int))] }
def bodyS (fuel : Int) (call : CallT) (steps : List Stp) (p : Option FS) : Nat → MS → FS → Int → Nat → R3
  | 0, m, _, _, _ => .spent m
  | n + 1, m, f, o, at_ =>
    match steps[at_]? with
    | none => .done m f o
    | some s =>
      if m.made = fuel then .spent m
      else if s.k = 11 then bodyS fuel call steps p n (m.step f.fn at_) f o (if f.get s.b > 0 then s.a.toNat else at_ + 1)
      else match stepS call (m.step f.fn at_) f p o s with
        | .spent m => .spent m
        | .go m f o true => .done m f o
        | .go m f o false => bodyS fuel call steps p n m f o (at_ + 1)
def onB (f d : FS) : Bool := decide (f.en = 2) && !d.cnt
def yK (m : MS) (f d : FS) : MS :=
  if onB f d = true then
    if d.en = 2 then { m with panics := panAt (panAt m.panics f.pan (fun x => { x with fate := 2, by_ := d.pan })) d.pan (fun x => { x with last := f.pan }) }
    else if d.en = 3 then { m with panics := panAt m.panics f.pan (fun x => { x with fate := 4 }) }
    else m
  else m
def yZ (f d : FS) : FS :=
 if d.en = 2 then { f with lvg := f.lvg || d.lvg, en := 2, pan := d.pan }
 else if d.en = 3 then { f with lvg := f.lvg || d.lvg, en := 3 }
 else if d.cnt = true then { f with lvg := f.lvg || d.lvg, en := if (f.lvg || d.lvg) = true then 3 else 1 }
 else { f with lvg := f.lvg || d.lvg }
def runsS (call : CallT) : Nat → MS → FS → Option FS → Int → R3
 | 0, m, f, _, o => .done m f o
 | n + 1, m, f, p, o =>
  match f.runs.getLast? with
  | none => .done m f o
  | some z =>
   match call m z.1 z.2 (some { f with runs := f.runs.dropLast }) f.r1 true with
   | .spent m => .spent m
   | .done m d o1 => runsS call n (yK m { f with runs := f.runs.dropLast, r1 := o1 } d) (yZ { f with runs := f.runs.dropLast, r1 := o1 } d) p o
def finVal (m : MS) (f : FS) : Int := if f.en = 1 then f.r1 else if f.en = 2 then panVal m.panics f.pan else 0
def finKind (f : FS) : Int := if f.en = 1 then 7 else if f.en = 2 then 8 else 9
def finishS (m : MS) (f : FS) : MS :=
  ({ m with panics := if f.en = 2 then panAt m.panics f.pan (fun x => { x with unw := x.unw ++ [f.fn] }) else m.panics,
            calls := m.calls.modify f.id.toNat (fun c => { c with en := f.en, val := finVal m f }) } : MS).tell (finKind f) f.fn (finVal m f) f.id
def parId (p : Option FS) : Int := match p with | some q => q.id | none => -1
def callS (P : List (List Stp)) (fuel : Int) : Nat → CallT
 | 0, m, _, _, _, _, _ => .spent m
 | d + 1, m, fn, arg, p, o, dfr =>
  match bodyS fuel (callS P fuel d) (P.getD fn.toNat []) p (fuel - m.made).toNat.succ (m.enter fn arg (parId p) dfr) (m.frame fn arg dfr) o 0 with
  | .spent m => .spent m
  | .done m f o =>
   match runsS (callS P fuel d) f.runs.length m f p o with
   | .spent m => .spent m
   | .done m f o => .done { finishS m f with depth := m.depth - 1 } f o
def MS.start (shared : Int) : MS := { made := 0, shared := shared, depth := 0, deepest := 0, trace := [], owners := [], calls := [], panics := [], recs := [], places := [] }
structure StpOk (n : Nat) (s : Stp) : Prop where
 k0 : 1 ≤ s.k
 k1 : s.k ≤ 13
 a : s.k ≠ 4 → s.k ≠ 5 → s.k ≠ 10 → s.k ≠ 11 → 0 ≤ s.a ∧ s.a ≤ 3
 b : s.k = 2 ∨ s.k = 4 ∨ s.k = 5 ∨ s.k = 11 → 0 ≤ s.b ∧ s.b ≤ 3
 f : s.k = 4 ∨ s.k = 5 → 0 ≤ s.a ∧ s.a < n
 j : s.k = 11 → 0 ≤ s.a ∧ s.a ≤ 8
 n : s.k = 1 → -32768 ≤ s.b ∧ s.b ≤ 32767
structure ProgOk (P : List (List Stp)) : Prop where
 some_ : 1 ≤ P.length
 few : P.length ≤ 6
 short : ∀ b ∈ P, b.length ≤ 8
 steps : ∀ b ∈ P, ∀ s ∈ b, StpOk P.length s
structure OkM (fuel : Int) (m : MS) (x : Nat) : Prop where
 made0 : 0 ≤ m.made
 made1 : m.made ≤ fuel
 fuel1 : fuel ≤ 200
 bnd : (m.trace.length : Int) + 3 * (fuel - m.made) + x ≤ 1000
 own : m.owners.length = m.trace.length
 calls : m.calls.length ≤ m.trace.length
 pans : m.panics.length ≤ m.trace.length
 recs : m.recs.length ≤ m.trace.length
 unw : ∀ p ∈ m.panics, p.unw.length ≤ m.trace.length
structure OkF (n : Nat) (m : MS) (f : FS) : Prop where
 id0 : 0 ≤ f.id
 id1 : f.id < m.calls.length
 fn0 : 0 ≤ f.fn
 fn1 : f.fn < n
 en : f.en = 1 ∨ f.en = 2 ∨ f.en = 3
 pan : f.en = 2 → 0 ≤ f.pan ∧ f.pan < m.panics.length
 runs : ∀ z ∈ f.runs, 0 ≤ z.1 ∧ z.1 < n
structure Grew (m m' : MS) : Prop where
 made : m.made ≤ m'.made
 depth : m'.depth = m.depth
 calls : m.calls.length ≤ m'.calls.length
 pans : m.panics.length ≤ m'.panics.length
theorem Grew.refl (m : MS) : Grew m m := ⟨Int.le_refl _, rfl, Nat.le_refl _, Nat.le_refl _⟩
theorem Grew.trans {a b c : MS} (h : Grew a b) (k : Grew b c) : Grew a c := ⟨Int.le_trans h.made k.made, k.depth.trans h.depth, Nat.le_trans h.calls k.calls, Nat.le_trans h.pans k.pans⟩
theorem OkF.grew {n : Nat} {m m' : MS} {f : FS} (h : OkF n m f) (g : Grew m m') : OkF n m' f := by
 refine ⟨h.id0, ?_, h.fn0, h.fn1, h.en, fun e => ?_, h.runs⟩
 · have := h.id1; have := g.calls; omega
 · have := h.pan e; have := g.pans; omega
theorem OkF.regs {n : Nat} {m : MS} {f : FS} (h : OkF n m f) (f' : FS) (h1 : f'.id = f.id) (h2 : f'.fn = f.fn) (h3 : f'.en = f.en) (h4 : f'.pan = f.pan) (h5 : f'.runs = f.runs) : OkF n m f' :=
 ⟨h1 ▸ h.id0, h1 ▸ h.id1, h2 ▸ h.fn0, h2 ▸ h.fn1, h3 ▸ h.en, fun e => by rw [h4]; exact h.pan (by rw [← h3]; exact e), h5 ▸ h.runs⟩
theorem OkM.less {fuel : Int} {m : MS} {x y : Nat} (h : OkM fuel m x) (hxy : y ≤ x) : OkM fuel m y := ⟨h.made0, h.made1, h.fuel1, by have := h.bnd; omega, h.own, h.calls, h.pans, h.recs, h.unw⟩
theorem panAt_length (l : List PanI) (i : Int) (g : PanI → PanI) : (panAt l i g).length = l.length := by simp [panAt]
theorem panAt_unw {l : List PanI} {i : Int} {g : PanI → PanI} {b c : Nat} (h : ∀ p ∈ l, p.unw.length ≤ b) (hbc : b ≤ c) (hg : ∀ p, p.unw.length ≤ b → (g p).unw.length ≤ c) : ∀ p ∈ panAt l i g, p.unw.length ≤ c := by
 intro p hp
 obtain ⟨j, hj⟩ := List.getElem?_of_mem hp
 simp only [panAt, List.getElem?_modify] at hj
 cases hq : l[j]? with
 | none => simp [hq] at hj
 | some q =>
  have hm := h q (List.mem_of_getElem? hq)
  rw [hq] at hj
  obtain rfl := Option.some.inj hj
  split
  · exact hg q hm
  · exact Nat.le_trans hm hbc
theorem OkM.tell {fuel : Int} {m : MS} {x : Nat} (h : OkM fuel m (x + 1)) (k fn v ow : Int) : OkM fuel (m.tell k fn v ow) x := by
 refine ⟨h.made0, h.made1, h.fuel1, ?_, ?_, ?_, ?_, ?_, ?_⟩ <;> simp only [MS.tell, List.length_append, List.length_cons, List.length_nil]
 · have := h.bnd; omega
 · have := h.own; omega
 · have := h.calls; omega
 · have := h.pans; omega
 · have := h.recs; omega
 · intro p hp; have := h.unw p hp; omega
theorem Grew.tell (m : MS) (k fn v ow : Int) : Grew m (m.tell k fn v ow) := ⟨Int.le_refl _, rfl, Nat.le_refl _, Nat.le_refl _⟩
def CallOk (n : Nat) (fuel : Int) (call : CallT) : Prop := ∀ (m : MS) (fn arg : Int) (p : Option FS) (o : Int) (dfr : Bool) (m' : MS) (f : FS) (o' : Int) (x : Nat), OkM fuel m (x + 2) → 0 ≤ fn → fn < n → call m fn arg p o dfr = .done m' f o' → OkM fuel m' x ∧ Grew m m' ∧ OkF n m' f
theorem OkM.enter {fuel : Int} {m : MS} {x : Nat} (h : OkM fuel m (x + 1)) (fn arg up : Int) (dfr : Bool) : OkM fuel (m.enter fn arg up dfr) x := by
 refine ⟨h.made0, h.made1, h.fuel1, ?_, ?_, ?_, ?_, ?_, ?_⟩ <;> simp only [MS.enter, MS.tell, List.length_append, List.length_cons, List.length_nil]
 · have := h.bnd; omega
 · have := h.own; omega
 · have := h.calls; omega
 · have := h.pans; omega
 · have := h.recs; omega
 · intro p hp; have := h.unw p hp; omega
theorem OkM.step {fuel : Int} {m : MS} {x : Nat} (h : OkM fuel m x) (hne : ¬ m.made = fuel) (fn : Int) (at_ : Nat) : OkM fuel (m.step fn at_) (x + 3) := by
 have := h.made0
 have := h.made1
 refine ⟨?_, ?_, h.fuel1, ?_, h.own, h.calls, h.pans, h.recs, h.unw⟩ <;> simp only [MS.step]
 · omega
 · omega
 · have := h.bnd; omega
theorem Grew.step (m : MS) (fn : Int) (at_ : Nat) : Grew m (m.step fn at_) := ⟨by simp only [MS.step]; omega, rfl, Nat.le_refl _, Nat.le_refl _⟩
theorem stepS_ok {n : Nat} {fuel : Int} {call : CallT} (hc : CallOk n fuel call) {m : MS} {f : FS} {p : Option FS} {o : Int} {s : Stp} {m' : MS} {f' : FS} {o' : Int} {e : Bool} {x : Nat}
    (hs : StpOk n s) (hm : OkM fuel m (2 * f.runs.length + x + 3)) (hf : OkF n m f) (h : stepS call m f p o s = .go m' f' o' e) :
    OkM fuel m' (2 * f'.runs.length + x) ∧ Grew m m' ∧ OkF n m' f' := by
  have hless : OkM fuel m (2 * f.runs.length + x) := hm.less (by omega)
  unfold stepS at h
  by_cases hk : s.k = 1
  · rw [if_pos hk] at h
    simp only [RB.go.injEq] at h; obtain ⟨rfl, rfl, rfl, rfl⟩ := h;exact ⟨hless, Grew.refl _, hf.regs _ rfl rfl rfl rfl rfl⟩
  rw [if_neg hk] at h
  clear hk
  by_cases hk : s.k = 2
  · rw [if_pos hk] at h
    simp only [RB.go.injEq] at h; obtain ⟨rfl, rfl, rfl, rfl⟩ := h;exact ⟨hless, Grew.refl _, hf.regs _ rfl rfl rfl rfl rfl⟩
  rw [if_neg hk] at h
  clear hk
  by_cases hk : s.k = 3
  · rw [if_pos hk] at h
    simp only [RB.go.injEq] at h; obtain ⟨rfl, rfl, rfl, rfl⟩ := h;exact ⟨(hm.less (y := 2 * f.runs.length + x + 1) (by omega)).tell _ _ _ _, Grew.tell _ _ _ _ _, hf.grew (Grew.tell _ _ _ _ _)⟩
  rw [if_neg hk] at h
  clear hk
  by_cases hk : s.k = 4
  · rw [if_pos hk] at h
    have hfn := hs.f (.inl hk)
    split at h
    · cases h
    · rename_i m1 d o1 hcall
      obtain ⟨h1, h2, h3⟩ := hc _ _ _ _ _ _ _ _ _ (2 * f.runs.length + x) (hm.less (by omega)) hfn.1 hfn.2 hcall;have hf1 := hf.grew h2
      split at h
      · simp only [RB.go.injEq] at h; obtain ⟨rfl, rfl, rfl, rfl⟩ := h
        exact ⟨h1, h2, hf1.regs _ rfl rfl rfl rfl rfl⟩
      · simp only [RB.go.injEq] at h; obtain ⟨rfl, rfl, rfl, rfl⟩ := h
        exact ⟨h1, h2, hf1.id0, hf1.id1, hf1.fn0, hf1.fn1, h3.en, h3.pan, hf1.runs⟩
  rw [if_neg hk] at h
  clear hk
  by_cases hk : s.k = 5
  · rw [if_pos hk] at h
    have hfn := hs.f (.inr hk);simp only [RB.go.injEq] at h; obtain ⟨rfl, rfl, rfl, rfl⟩ := h;refine ⟨?_, Grew.tell _ _ _ _ _, hf.id0, hf.id1, hf.fn0, hf.fn1, hf.en, hf.pan, fun z hz => ?_⟩
    · refine OkM.tell ?_ _ _ _ _
      simp only [List.length_append, List.length_cons, List.length_nil];exact hm.less (by omega)
    · simp only [List.mem_append, List.mem_singleton] at hz
      rcases hz with hz | rfl
      · exact hf.runs z hz
      · exact hfn
  rw [if_neg hk] at h
  clear hk
  by_cases hk : s.k = 6
  · rw [if_pos hk] at h
    simp only [RB.go.injEq] at h; obtain ⟨rfl, rfl, rfl, rfl⟩ := h;refine ⟨⟨hm.made0, hm.made1, hm.fuel1, ?_, ?_, ?_, ?_, ?_, ?_⟩, ⟨Int.le_refl _, rfl, Nat.le_refl _, ?_⟩, hf.id0, hf.id1, hf.fn0, hf.fn1, .inr (.inl rfl), fun _ => ?_, hf.runs⟩ <;> simp only [MS.tell, List.length_append, List.length_cons, List.length_nil]
    · have := hm.bnd; omega
    · have := hm.own; omega
    · have := hm.calls; omega
    · have := hm.pans; omega
    · have := hm.recs; omega
    · intro q hq
      simp only [List.mem_append, List.mem_singleton] at hq
      rcases hq with hq | rfl
      · have := hm.unw q hq; omega
      · exact Nat.zero_le _
    · omega
    · omega
  rw [if_neg hk] at h
  clear hk
  by_cases hk : s.k = 7
  · rw [if_pos hk] at h
    simp only [RB.go.injEq] at h; obtain ⟨rfl, rfl, rfl, rfl⟩ := h;unfold zY
    split
    · split
      · refine ⟨⟨hm.made0, hm.made1, hm.fuel1, ?_, ?_, ?_, ?_, ?_, ?_⟩, ⟨Int.le_refl _, rfl, Nat.le_refl _, ?_⟩, hf.id0, hf.id1, hf.fn0, hf.fn1, hf.en, fun e => ?_, hf.runs⟩ <;> simp only [recM, recF, FS.set, MS.tell, panAt_length, List.length_append, List.length_cons, List.length_nil]
        · have := hm.bnd; omega
        · have := hm.own; omega
        · have := hm.calls; omega
        · have := hm.pans; omega
        · have := hm.recs; omega
        · exact panAt_unw hm.unw (by omega) (fun p hp => by simp only []; omega)
        · omega
        · exact hf.pan e
      · exact ⟨hless, Grew.refl _, hf.regs _ rfl rfl rfl rfl rfl⟩
    · exact ⟨hless, Grew.refl _, hf.regs _ rfl rfl rfl rfl rfl⟩
  rw [if_neg hk] at h
  clear hk
  by_cases hk : s.k = 8
  · rw [if_pos hk] at h
    simp only [RB.go.injEq] at h; obtain ⟨rfl, rfl, rfl, rfl⟩ := h;exact ⟨hless, Grew.refl _, hf.regs _ rfl rfl rfl rfl rfl⟩
  rw [if_neg hk] at h
  clear hk
  by_cases hk : s.k = 9
  · rw [if_pos hk] at h
    simp only [RB.go.injEq] at h; obtain ⟨rfl, rfl, rfl, rfl⟩ := h;exact ⟨hless, Grew.refl _, hf⟩
  rw [if_neg hk] at h
  clear hk
  by_cases hk : s.k = 10
  · rw [if_pos hk] at h
    simp only [RB.go.injEq] at h; obtain ⟨rfl, rfl, rfl, rfl⟩ := h;exact ⟨hless, Grew.refl _, hf.id0, hf.id1, hf.fn0, hf.fn1, .inr (.inr rfl), (fun e => by simp at e), hf.runs⟩
  rw [if_neg hk] at h
  clear hk
  by_cases hk : s.k = 12
  · rw [if_pos hk] at h
    simp only [RB.go.injEq] at h; obtain ⟨rfl, rfl, rfl, rfl⟩ := h;exact ⟨⟨hm.made0, hm.made1, hm.fuel1, hless.bnd, hm.own, hm.calls, hm.pans, hm.recs, hm.unw⟩, ⟨Int.le_refl _, rfl, Nat.le_refl _, Nat.le_refl _⟩, hf.id0, hf.id1, hf.fn0, hf.fn1, hf.en, hf.pan, hf.runs⟩
  rw [if_neg hk] at h
  clear hk
  by_cases hk : s.k = 13
  · rw [if_pos hk] at h
    simp only [RB.go.injEq] at h; obtain ⟨rfl, rfl, rfl, rfl⟩ := h;exact ⟨hless, Grew.refl _, hf.regs _ rfl rfl rfl rfl rfl⟩
  rw [if_neg hk] at h
  simp only [RB.go.injEq] at h
  obtain ⟨rfl, rfl, rfl, rfl⟩ := h
  exact ⟨hless, Grew.refl _, hf⟩
theorem stepS_fix {call : CallT} {m : MS} {f : FS} {p : Option FS} {o : Int} {s : Stp} {m' : MS} {f' : FS} {o' : Int} {e : Bool} (h : stepS call m f p o s = .go m' f' o' e) : f'.fn = f.fn ∧ f'.dfr = f.dfr ∧ f'.id = f.id := by
  unfold stepS at h
  by_cases hk : s.k = 7
  · rw [hk] at h
    simp at h
    obtain ⟨_, rfl, _, _⟩ := h;unfold zY
    split
    · split <;> simp [recF, recNo, FS.set]
    · simp [recNo, FS.set]
  by_cases hk4 : s.k = 4
  · rw [hk4] at h
    simp at h
    split at h
    · cases h
    · split at h <;> simp at h <;> obtain ⟨_, rfl, _, _⟩ := h <;> simp
  · (repeat' split at h) <;> first | (simp at h; done) | (simp at h; obtain ⟨_, rfl, _, _⟩ := h; simp [FS.set]; done) | (rename_i hh; exact absurd hh hk4) | (rename_i hh; exact absurd hh hk)
theorem bodyS_ok {n : Nat} {fuel : Int} {call : CallT} (hc : CallOk n fuel call) {steps : List Stp} (hs : ∀ s ∈ steps, StpOk n s) {p : Option FS} {x : Nat} : ∀ (k : Nat) (m : MS) (f : FS) (o : Int) (at_ : Nat) {m' : MS} {f' : FS} {o' : Int},
    OkM fuel m (2 * f.runs.length + x) → OkF n m f → bodyS fuel call steps p k m f o at_ = .done m' f' o' → OkM fuel m' (2 * f'.runs.length + x) ∧ Grew m m' ∧ OkF n m' f' := by
  intro k
  induction k with
  | zero => intro m f o at_ m' f' o' _ _ h; simp [bodyS] at h
  | succ k ih =>
    intro m f o at_ m' f' o' hm hf h;simp only [bodyS] at h
    split at h
    · simp only [R3.done.injEq] at h; obtain ⟨rfl, rfl, rfl⟩ := h
      exact ⟨hm, Grew.refl _, hf⟩
    · rename_i s hst
      have hso := hs s (List.mem_of_getElem? hst)
      split at h
      · cases h
      · rename_i hne
        have hm1 := hm.step hne f.fn at_;have hf1 := hf.grew (Grew.step m f.fn at_)
        split at h
        · obtain ⟨h1, h2, h3⟩ := ih _ _ _ _ (hm1.less (by omega)) hf1 h
          exact ⟨h1, (Grew.step _ _ _).trans h2, h3⟩
        · split at h
          · cases h
          · rename_i hst
            simp only [R3.done.injEq] at h; obtain ⟨rfl, rfl, rfl⟩ := h;obtain ⟨h1, h2, h3⟩ := stepS_ok hc hso hm1 hf1 hst;exact ⟨h1, (Grew.step _ _ _).trans h2, h3⟩
          · rename_i hst
            obtain ⟨h1, h2, h3⟩ := stepS_ok hc hso hm1 hf1 hst;obtain ⟨g1, g2, g3⟩ := ih _ _ _ _ h1 h3 h;exact ⟨g1, ((Grew.step _ _ _).trans h2).trans g2, g3⟩
theorem behind_ok {n : Nat} {fuel : Int} {m : MS} {f d : FS} {x : Nat} (hm : OkM fuel m x) (hf : OkF n m f) (hd : OkF n m d) : OkM fuel (yK m f d) x ∧ Grew m (yK m f d) ∧ OkF n (yK m f d) (yZ f d) := by
  have hM : OkM fuel (yK m f d) x ∧ Grew m (yK m f d) := by
    unfold yK
    split
    · split
      · refine ⟨⟨hm.made0, hm.made1, hm.fuel1, hm.bnd, hm.own, hm.calls, by simp only [panAt_length]; exact hm.pans, hm.recs, ?_⟩, ⟨Int.le_refl _, rfl, Nat.le_refl _, by simp only [panAt_length]; exact Nat.le_refl _⟩⟩
        exact panAt_unw (panAt_unw hm.unw (Nat.le_refl _) (fun p hp => hp)) (Nat.le_refl _) (fun p hp => hp)
      · split
        · refine ⟨⟨hm.made0, hm.made1, hm.fuel1, hm.bnd, hm.own, hm.calls, by simp only [panAt_length]; exact hm.pans, hm.recs, ?_⟩, ⟨Int.le_refl _, rfl, Nat.le_refl _, by simp only [panAt_length]; exact Nat.le_refl _⟩⟩
          exact panAt_unw hm.unw (Nat.le_refl _) (fun p hp => hp)
        · exact ⟨hm, Grew.refl _⟩
    · exact ⟨hm, Grew.refl _⟩
  refine ⟨hM.1, hM.2, ?_⟩
  have hf1 := hf.grew hM.2
  have hd1 := hd.grew hM.2
  generalize yK m f d = M at hf1 hd1
  unfold yZ
  split
  · rename_i he; exact ⟨hf1.id0, hf1.id1, hf1.fn0, hf1.fn1, .inr (.inl rfl), fun _ => hd1.pan he, hf1.runs⟩
  · split
    · exact ⟨hf1.id0, hf1.id1, hf1.fn0, hf1.fn1, .inr (.inr rfl), fun e => by simp at e, hf1.runs⟩
    · split
      · refine ⟨hf1.id0, hf1.id1, hf1.fn0, hf1.fn1, ?_, fun e => ?_, hf1.runs⟩
        · dsimp only
          split
          · exact .inr (.inr rfl)
          · exact .inl rfl
        · dsimp only at e
          split at e <;> simp at e
      · exact ⟨hf1.id0, hf1.id1, hf1.fn0, hf1.fn1, hf1.en, hf1.pan, hf1.runs⟩
theorem runsS_ok {n : Nat} {fuel : Int} {call : CallT} (hc : CallOk n fuel call) {p : Option FS} {x : Nat} : ∀ (k : Nat) (m : MS) (f : FS) (o : Int) {m' : MS} {f' : FS} {o' : Int}, f.runs.length = k →
    OkM fuel m (2 * f.runs.length + x) → OkF n m f → runsS call k m f p o = .done m' f' o' → OkM fuel m' x ∧ Grew m m' ∧ OkF n m' f' ∧ f'.runs = [] := by
  intro k
  induction k with
  | zero =>
    intro m f o m' f' o' hk hm hf h;simp only [runsS, R3.done.injEq] at h; obtain ⟨rfl, rfl, rfl⟩ := h;exact ⟨hm.less (by omega), Grew.refl _, hf, List.eq_nil_of_length_eq_zero hk⟩
  | succ k ih =>
    intro m f o m' f' o' hk hm hf h;simp only [runsS] at h
    split at h
    · rename_i hl
      rw [List.getLast?_eq_none_iff] at hl;rw [hl] at hk
      simp at hk
    · rename_i z hz
      have hmem := List.mem_of_getLast? hz;have hfn := hf.runs z hmem;have hdl : f.runs.dropLast.length = k := by rw [List.length_dropLast]; omega
      split at h
      · cases h
      · rename_i m1 d o1 hcall
        obtain ⟨h1, h2, h3⟩ := hc _ _ _ _ _ _ _ _ _ (2 * k + x) (hm.less (by omega)) hfn.1 hfn.2 hcall
        have hf1 : OkF n m1 { f with runs := f.runs.dropLast, r1 := o1 } :=
          have g := hf.grew h2
          ⟨g.id0, g.id1, g.fn0, g.fn1, g.en, g.pan, fun z hz => g.runs z (List.dropLast_subset _ hz)⟩
        obtain ⟨g1, g2, g3⟩ := behind_ok h1 hf1 h3;have hr : (yZ { f with runs := f.runs.dropLast, r1 := o1 } d).runs = f.runs.dropLast := by unfold yZ; (repeat' split) <;> rfl
        obtain ⟨k1, k2, k3, k4⟩ := ih _ _ _ (by rw [hr]; exact hdl) (by rw [hr, hdl]; exact g1) g3 h;exact ⟨k1, (h2.trans g2).trans k2, k3, k4⟩
theorem finish_ok {n : Nat} {fuel : Int} {m : MS} {f : FS} {x : Nat} (hm : OkM fuel m (x + 1)) (hf : OkF n m f) : OkM fuel (finishS m f) x ∧ Grew m (finishS m f) ∧ OkF n (finishS m f) f := by
  have hg : Grew m (finishS m f) := by
    refine ⟨Int.le_refl _, rfl, ?_, ?_⟩ <;> simp only [finishS, MS.tell, List.length_modify]
    · exact Nat.le_refl _
    · split
      · rw [panAt_length]; exact Nat.le_refl _
      · exact Nat.le_refl _
  have hl : (if f.en = 2 then panAt m.panics f.pan (fun x => { x with unw := x.unw ++ [f.fn] }) else m.panics).length = m.panics.length := by
    split
    · rw [panAt_length]
    · rfl
  refine ⟨⟨hm.made0, hm.made1, hm.fuel1, ?_, ?_, ?_, ?_, ?_, ?_⟩, hg, hf.grew hg⟩ <;> simp only [finishS, MS.tell, hl, List.length_modify, List.length_append, List.length_cons, List.length_nil]
  · have := hm.bnd; omega
  · have := hm.own; omega
  · have := hm.calls; omega
  · have := hm.pans; omega
  · have := hm.recs; omega
  · split
    · exact panAt_unw hm.unw (by omega) (fun p hp => by simp only [List.length_append, List.length_cons, List.length_nil]; omega)
    · intro p hp; have := hm.unw p hp; omega
theorem callS_ok {P : List (List Stp)} (hP : ProgOk P) (fuel : Int) : ∀ d, CallOk P.length fuel (callS P fuel d) := by
  intro d
  induction d with
  | zero => intro m fn arg p o dfr m' f o' x _ _ _ h; simp [callS] at h
  | succ d ih =>
    intro m fn arg p o dfr m' f' o' x hm h0 h1 h;simp only [callS] at h
    split at h
    · cases h
    · rename_i m1 f1 o1 hb
      have hsteps : ∀ s ∈ P.getD fn.toNat [], StpOk P.length s := by
        have hlt : fn.toNat < P.length := by omega
        rw [List.getD_eq_getElem?_getD, List.getElem?_eq_getElem hlt];exact hP.steps _ (List.getElem_mem hlt)
      have hme : OkM fuel (m.enter fn arg (parId p) dfr) (x + 1) := OkM.enter hm _ _ _ _
      have hfe : OkF P.length (m.enter fn arg (parId p) dfr) (m.frame fn arg dfr) := by
        refine ⟨?_, ?_, h0, h1, .inl rfl, fun e => by simp [MS.frame] at e, fun z hz => by simp [MS.frame] at hz⟩
        · simp only [MS.frame]; omega
        · simp only [MS.frame, MS.enter, MS.tell, List.length_append, List.length_cons, List.length_nil]; omega
      obtain ⟨h2, h3, h4⟩ := bodyS_ok (x := x + 1) ih hsteps _ _ _ _ _ (by simpa [MS.frame] using hme) hfe hb
      split at h
      · cases h
      · rename_i m2 f2 o2 hr
        obtain ⟨k1, k2, k3, k4⟩ := runsS_ok (x := x + 1) ih _ _ _ _ rfl h2 h4 hr;obtain ⟨g1, g2, g3⟩ := finish_ok k1 k3;simp only [R3.done.injEq] at h; obtain ⟨rfl, rfl, rfl⟩ := h;refine ⟨⟨g1.made0, g1.made1, g1.fuel1, g1.bnd, g1.own, g1.calls, g1.pans, g1.recs, g1.unw⟩, ⟨?_, ?_, ?_, ?_⟩, g3.id0, g3.id1, g3.fn0, g3.fn1, g3.en, g3.pan, g3.runs⟩
        · exact Int.le_trans h3.made (Int.le_trans k2.made g2.made)
        · show m2.depth - 1 = m.depth
          have e1 : m1.depth = m.depth + 1 := h3.depth;have e2 := k2.depth
          omega
        · refine Nat.le_trans ?_ (Nat.le_trans h3.calls (Nat.le_trans k2.calls g2.calls)); simp only [MS.enter, MS.tell, List.length_append]; omega
        · exact Nat.le_trans h3.pans (Nat.le_trans k2.pans g2.pans)
def OkP (m : MS) (p : Option FS) : Prop := ∀ q, p = some q → q.en = 2 → 0 ≤ q.pan ∧ q.pan < m.panics.length
theorem OkP.grew {m m' : MS} {p : Option FS} (h : OkP m p) (g : Grew m m') : OkP m' p := fun q hq he => by have := h q hq he; have := g.pans; omega
structure MQ where
 spent : Bool
 shared : Int
 made : Int
 deep : Int
 trace : List (Int × Int × Int)
 seen : List (Int × Int)
structure FQ where
 f : Int
 depth : Int
 r0 : Int
 r1 : Int
 r2 : Int
 r3 : Int
 defers : List (Int × Int)
 kind : Int
 value : Int
 leaving : Bool
 deferred : Bool
 panicking : Bool
 panic : Int
 recovered : Bool
 outer : Int
def FQ.get (c : FQ) (r : Int) : Int := g4 c.r0 c.r1 c.r2 c.r3 r
def FQ.set (c : FQ) (r x : Int) : FQ := { c with r0 := u4 c.r0 x 0 r, r1 := u4 c.r1 x 1 r, r2 := u4 c.r2 x 2 r, r3 := u4 c.r3 x 3 r }
def FQ.new (f depth arg : Int) : FQ := { f := f, depth := depth, r0 := arg, r1 := 0, r2 := 0, r3 := 0, defers := [], kind := 0, value := 0, leaving := false, deferred := false, panicking := false, panic := 0, recovered := false, outer := 0 }
def qTell (m : MQ) (k f v : Int) : MQ := { m with trace := m.trace ++ [(k, f, v)] }
def qY (m : MQ) (c : FQ) (s : Stp) : MQ × FQ :=
  if s.k = 1 then (m, c.set s.a s.b)
  else if s.k = 2 then (m, c.set s.a (w16 (c.get s.a + c.get s.b)))
  else if s.k = 3 then (qTell m 4 c.f (c.get s.a), c)
  else if s.k = 9 then (m, if c.deferred = true then { c with outer := c.get s.a } else c)
  else if s.k = 12 then ({ m with shared := c.get s.a }, c)
  else if s.k = 13 then (m, c.set s.a m.shared)
  else if s.k = 7 then
    if (c.panicking && !c.recovered) = true then (qTell m 6 c.f c.panic, { ({ c with recovered := true } : FQ).set s.a c.panic with r3 := 1 })
    else (m, { c.set s.a 0 with r3 := 0 })
  else (m, c)
abbrev CallQ := MQ → FQ → MQ × FQ
def qInner (call : CallQ) (m : MQ) (c : FQ) (at_ : Int) (s : Stp) : MQ × FQ × Int :=
 let r := call m (FQ.new s.a (c.depth + 1) (c.get s.b))
 if r.2.kind = 1 then (r.1, { c with r2 := r.2.r1 }, at_ + 1)
 else if r.2.kind = 2 then (r.1, { c with kind := 2, value := r.2.value, leaving := c.leaving || r.2.leaving }, -1)
 else if r.2.kind = 3 then (r.1, { c with kind := 3, leaving := c.leaving || r.2.leaving }, -1)
 else (r.1, { c with leaving := c.leaving || r.2.leaving }, -1)
def qMake (call : CallQ) (m : MQ) (c : FQ) (at_ : Int) (s : Stp) : MQ × FQ × Int :=
 if s.k = 4 then qInner call m c at_ s
 else if s.k = 5 then (qTell m 2 s.a (c.get s.b), { c with defers := c.defers ++ [(s.a, c.get s.b)] }, at_ + 1)
 else if s.k = 6 then (qTell m 5 c.f (c.get s.a), { c with kind := 2, value := c.get s.a }, -1)
 else if s.k = 8 then (m, { c with r1 := c.get s.a }, -1)
 else if s.k = 10 then (m, { c with kind := 3, leaving := true }, -1)
 else if s.k = 11 then (m, c, if c.get s.b > 0 then s.a else at_ + 1)
 else ((qY m c s).1, (qY m c s).2, at_ + 1)
theorem qInner_defers (call : CallQ) (m : MQ) (c : FQ) (at_ : Int) (s : Stp) : (qInner call m c at_ s).2.1.defers = c.defers := by unfold qInner; dsimp only; (repeat' split) <;> rfl
theorem qSimple_defers (m : MQ) (c : FQ) (s : Stp) : (qY m c s).2.defers = c.defers := by unfold qY; (repeat' split) <;> rfl
theorem qSimple_seen (m : MQ) (c : FQ) (s : Stp) : (qY m c s).1.seen = m.seen := by unfold qY; (repeat' split) <;> rfl
def MQ.step (m : MQ) (f at_ : Int) : MQ := { m with made := m.made + 1, seen := m.seen ++ [(f, at_)] }
def qBody (fuel : Int) (call : CallQ) (steps : List Stp) : Nat → MQ → FQ → Int → MQ × FQ
  | 0, m, c, _ => (m, c)
  | n + 1, m, c, at_ =>
    if 0 ≤ at_ then
      match steps[at_.toNat]? with
      | none => (m, c)
      | some s =>
        if m.made = fuel then ({ m with spent := true }, c)
        else
          if (qMake call (m.step c.f at_) c at_ s).1.spent = true then ((qMake call (m.step c.f at_) c at_ s).1, (qMake call (m.step c.f at_) c at_ s).2.1)
          else qBody fuel call steps n (qMake call (m.step c.f at_) c at_ s).1 (qMake call (m.step c.f at_) c at_ s).2.1 (qMake call (m.step c.f at_) c at_ s).2.2
    else (m, c)
theorem qBody_out (fuel : Int) (call : CallQ) (steps : List Stp) (k : Nat) (m : MQ) (c : FQ) {at_ : Int} (h : ¬ (0 ≤ at_ ∧ at_ < (steps.length : Int))) : qBody fuel call steps k m c at_ = (m, c) := by
 cases k with
 | zero => rfl
 | succ k =>
  simp only [qBody]
  by_cases h0 : 0 ≤ at_
  · rw [if_pos h0, List.getElem?_eq_none (by omega)]
  · rw [if_neg h0]
def qNew (c : FQ) (z : Int × Int) : FQ :=
  { f := z.1, depth := c.depth + 1, r0 := z.2, r1 := 0, r2 := 0, r3 := 0, defers := [], kind := 0, value := 0, leaving := false, deferred := true,
    panicking := decide (c.kind = 2), panic := if c.kind = 2 then c.value else 0, recovered := false, outer := c.r1 }
def qBehind (c d : FQ) : FQ :=
 { c with r1 := d.outer, leaving := c.leaving || d.leaving, value := (if d.kind = 2 then d.value else c.value), kind := if d.kind = 3 then 3 else if d.kind = 2 then 2 else if d.recovered = true then (if (c.leaving || d.leaving) = true then 3 else 1) else c.kind }
def qLast (call : CallQ) (m : MQ) (c : FQ) (z : Int × Int) : MQ × FQ :=
 let c1 : FQ := { c with defers := c.defers.dropLast }
 let r := call m (qNew c1 z)
 if r.1.spent = true then (r.1, c1) else (r.1, qBehind c1 r.2)
def qRuns (call : CallQ) : Nat → MQ → FQ → MQ × FQ
 | 0, m, c => (m, c)
 | n + 1, m, c =>
  match c.defers.getLast? with
  | none => (m, c)
  | some z => if (qLast call m c z).1.spent = true then qLast call m c z else qRuns call n (qLast call m c z).1 (qLast call m c z).2
def qEnd (m : MQ) (c : FQ) : MQ :=
 if c.kind = 1 then qTell m 7 c.f c.r1 else if c.kind = 2 then qTell m 8 c.f c.value else if c.kind = 3 then qTell m 9 c.f 0 else m
def qEnter (m : MQ) (c : FQ) : MQ := qTell { m with deep := max m.deep c.depth } (if c.deferred = true then 3 else 1) c.f c.r0
def qTail (r : MQ × FQ) : MQ × FQ := if r.1.spent = true then r else (qEnd r.1 r.2, r.2)
def qCall (P : List (List Stp)) (fuel : Int) : Nat → CallQ
 | 0, m, c => ({ m with spent := true }, c)
 | d + 1, m, c =>
  let b := qBody fuel (qCall P fuel d) (P.getD c.f.toNat []) (fuel - m.made).toNat.succ (qEnter m c) { c with kind := 1 } 0
  if b.1.spent = true then b else qTail (qRuns (qCall P fuel d) b.2.defers.length b.1 b.2)
structure OkQ (fuel : Int) (m : MQ) (x : Nat) : Prop where
 sp : m.spent = false
 made0 : 0 ≤ m.made
 made1 : m.made ≤ fuel
 fuel1 : fuel ≤ 200
 bnd : (m.trace.length : Int) + 3 * (fuel - m.made) + x ≤ 1000
 seen : (m.seen.length : Int) ≤ m.made
 sh : -32768 ≤ m.shared ∧ m.shared ≤ 32767
structure Sm (x : Int) : Prop where
 lo : -32768 ≤ x
 hi : x ≤ 32767
theorem sm_g4 {a b c d r : Int} (h1 : Sm a) (h2 : Sm b) (h3 : Sm c) (h4 : Sm d) : Sm (g4 a b c d r) := by unfold g4; (repeat' split) <;> assumption
theorem sm_u4 {a x k r : Int} (h1 : Sm a) (h2 : Sm x) : Sm (u4 a x k r) := by unfold u4; split <;> assumption
theorem w16_mod (x : Int) : w16 x = (x + 32768) % 65536 - 32768 := by
 unfold w16
 simp [IntKind.wrap, IntKind.bits, IntKind.signed]
 split <;> omega
theorem sm_w16 (x : Int) : Sm (w16 x) := by
 rw [w16_mod]
 constructor <;> omega
theorem sm_0 : Sm 0 := ⟨by omega, by omega⟩
theorem sm_1 : Sm 1 := ⟨by omega, by omega⟩
structure OkC (n : Nat) (c : FQ) : Prop where
 f0 : 0 ≤ c.f
 f1 : c.f < n
 defers : ∀ z ∈ c.defers, (0 ≤ z.1 ∧ z.1 < n) ∧ Sm z.2
 a0 : Sm c.r0
 a1 : Sm c.r1
 a2 : Sm c.r2
 a3 : Sm c.r3
 va : Sm c.value
 pa : Sm c.panic
 ou : Sm c.outer
theorem OkC.get {n : Nat} {c : FQ} (h : OkC n c) (r : Int) : Sm (c.get r) := sm_g4 h.a0 h.a1 h.a2 h.a3
theorem OkC.set {n : Nat} {c : FQ} (h : OkC n c) (r : Int) {x : Int} (hx : Sm x) : OkC n (c.set r x) := ⟨h.f0, h.f1, h.defers, sm_u4 h.a0 hx, sm_u4 h.a1 hx, sm_u4 h.a2 hx, sm_u4 h.a3 hx, h.va, h.pa, h.ou⟩
theorem OkC.new {n : Nat} {f d x : Int} (h0 : 0 ≤ f) (h1 : f < n) (hx : Sm x) : OkC n (FQ.new f d x) := ⟨h0, h1, fun z hz => by simp [FQ.new] at hz, hx, sm_0, sm_0, sm_0, sm_0, sm_0, sm_0⟩
theorem OkQ.less {fuel : Int} {m : MQ} {x y : Nat} (h : OkQ fuel m x) (hxy : y ≤ x) : OkQ fuel m y := ⟨h.sp, h.made0, h.made1, h.fuel1, by have := h.bnd; omega, h.seen, h.sh⟩
theorem OkQ.tell {fuel : Int} {m : MQ} {x : Nat} (h : OkQ fuel m (x + 1)) (k f v : Int) : OkQ fuel (qTell m k f v) x :=
 ⟨h.sp, h.made0, h.made1, h.fuel1, by have := h.bnd; simp only [qTell, List.length_append, List.length_cons, List.length_nil]; omega, h.seen, h.sh⟩
theorem OkQ.step {fuel : Int} {m : MQ} {x : Nat} (h : OkQ fuel m x) (hne : ¬ m.made = fuel) (f at_ : Int) : OkQ fuel (m.step f at_) (x + 3) := by
 have := h.made0
 have := h.made1
 have := h.bnd
 have := h.seen
 refine ⟨h.sp, ?_, ?_, h.fuel1, ?_, ?_, h.sh⟩ <;> simp only [MQ.step, List.length_append, List.length_cons, List.length_nil] <;> omega
def CallOkQ (n : Nat) (fuel : Int) (call : CallQ) : Prop := ∀ (m : MQ) (c : FQ) (x : Nat), OkQ fuel m (x + 2) → OkC n c → c.defers = [] → (call m c).1.spent = false → OkQ fuel (call m c).1 x ∧ OkC n (call m c).2 ∧ m.made ≤ (call m c).1.made
theorem qMake_ok {n : Nat} {fuel : Int} {call : CallQ} (hc : CallOkQ n fuel call) {m : MQ} {c : FQ} {at_ : Int} {s : Stp} {x : Nat} (hs : StpOk n s) (hm : OkQ fuel m (2 * c.defers.length + x + 3)) (hk : OkC n c) (h0 : 0 ≤ at_) (h7 : at_ < 8)
    (hsp : (qMake call m c at_ s).1.spent = false) : OkQ fuel (qMake call m c at_ s).1 (2 * (qMake call m c at_ s).2.1.defers.length + x) ∧ OkC n (qMake call m c at_ s).2.1 ∧ (qMake call m c at_ s).2.1.depth = c.depth ∧ (qMake call m c at_ s).2.1.f = c.f ∧
      (-1 ≤ (qMake call m c at_ s).2.2 ∧ (qMake call m c at_ s).2.2 ≤ 8) ∧ m.made ≤ (qMake call m c at_ s).1.made := by
  have hless : OkQ fuel m (2 * c.defers.length + x) := hm.less (by omega)
  have htl : ∀ k f v, OkQ fuel (qTell m k f v) (2 * c.defers.length + x) := fun k f v => (hm.less (y := 2 * c.defers.length + x + 1) (by omega)).tell k f v
  unfold qMake at hsp ⊢
  by_cases k4 : s.k = 4
  · rw [if_pos k4] at hsp ⊢
    have hfn := hs.f (.inl k4)
    have key : (call m (FQ.new s.a (c.depth + 1) (c.get s.b))).1.spent = false := by
      unfold qInner at hsp
      dsimp only at hsp
      (repeat' split at hsp) <;> exact hsp
    obtain ⟨h1, g, h2⟩ := hc m (FQ.new s.a (c.depth + 1) (c.get s.b)) (2 * c.defers.length + x) (hm.less (by omega)) (OkC.new hfn.1 hfn.2 (hk.get _)) rfl key;unfold qInner
    dsimp only
    (repeat' split) <;> first
      | exact ⟨h1, ⟨hk.f0, hk.f1, hk.defers, hk.a0, hk.a1, g.a1, hk.a3, hk.va, hk.pa, hk.ou⟩, rfl, rfl, (by dsimp only; omega), h2⟩
      | exact ⟨h1, ⟨hk.f0, hk.f1, hk.defers, hk.a0, hk.a1, hk.a2, hk.a3, g.va, hk.pa, hk.ou⟩, rfl, rfl, (by dsimp only; omega), h2⟩
      | exact ⟨h1, ⟨hk.f0, hk.f1, hk.defers, hk.a0, hk.a1, hk.a2, hk.a3, hk.va, hk.pa, hk.ou⟩, rfl, rfl, (by dsimp only; omega), h2⟩
  rw [if_neg k4] at hsp ⊢
  by_cases k5 : s.k = 5
  · rw [if_pos k5]
    have hfn := hs.f (.inr k5);refine ⟨?_, ⟨hk.f0, hk.f1, fun z hz => ?_, hk.a0, hk.a1, hk.a2, hk.a3, hk.va, hk.pa, hk.ou⟩, rfl, rfl, by dsimp only; omega, Int.le_refl _⟩
    · refine OkQ.tell ?_ _ _ _
      simp only [List.length_append, List.length_cons, List.length_nil];exact hm.less (by omega)
    · simp only [List.mem_append, List.mem_singleton] at hz
      rcases hz with hz | rfl
      · exact hk.defers z hz
      · exact ⟨hfn, hk.get _⟩
  rw [if_neg k5]
  by_cases k6 : s.k = 6
  · rw [if_pos k6]; exact ⟨htl _ _ _, ⟨hk.f0, hk.f1, hk.defers, hk.a0, hk.a1, hk.a2, hk.a3, hk.get _, hk.pa, hk.ou⟩, rfl, rfl, by dsimp only; omega, Int.le_refl _⟩
  rw [if_neg k6]
  by_cases k8 : s.k = 8
  · rw [if_pos k8]; exact ⟨hless, ⟨hk.f0, hk.f1, hk.defers, hk.a0, hk.get _, hk.a2, hk.a3, hk.va, hk.pa, hk.ou⟩, rfl, rfl, by dsimp only; omega, Int.le_refl _⟩
  rw [if_neg k8]
  by_cases k10 : s.k = 10
  · rw [if_pos k10]; exact ⟨hless, ⟨hk.f0, hk.f1, hk.defers, hk.a0, hk.a1, hk.a2, hk.a3, hk.va, hk.pa, hk.ou⟩, rfl, rfl, by dsimp only; omega, Int.le_refl _⟩
  rw [if_neg k10]
  by_cases k11 : s.k = 11
  · rw [if_pos k11]
    have hj := hs.j k11;refine ⟨hless, hk, rfl, rfl, ?_, Int.le_refl _⟩
    dsimp only
    split <;> omega
  rw [if_neg k11]
  have hs2 : OkQ fuel (qY m c s).1 (2 * c.defers.length + x) ∧ (qY m c s).2.defers = c.defers ∧ (qY m c s).2.depth = c.depth ∧ (qY m c s).2.f = c.f ∧ (qY m c s).1.made = m.made ∧ OkC n (qY m c s).2 := by
    unfold qY
    by_cases k1 : s.k = 1
    · rw [if_pos k1]; exact ⟨hless, rfl, rfl, rfl, rfl, hk.set _ ⟨(hs.n k1).1, (hs.n k1).2⟩⟩
    rw [if_neg k1]
    by_cases k2 : s.k = 2
    · rw [if_pos k2]; exact ⟨hless, rfl, rfl, rfl, rfl, hk.set _ (sm_w16 _)⟩
    rw [if_neg k2]
    by_cases k3 : s.k = 3
    · rw [if_pos k3]; exact ⟨htl _ _ _, rfl, rfl, rfl, rfl, hk⟩
    rw [if_neg k3]
    by_cases k9 : s.k = 9
    · rw [if_pos k9]
      dsimp only
      split
      · exact ⟨hless, rfl, rfl, rfl, rfl, hk.f0, hk.f1, hk.defers, hk.a0, hk.a1, hk.a2, hk.a3, hk.va, hk.pa, hk.get _⟩
      · exact ⟨hless, rfl, rfl, rfl, rfl, hk⟩
    rw [if_neg k9]
    by_cases k12 : s.k = 12
    · rw [if_pos k12]; exact ⟨⟨hless.sp, hless.made0, hless.made1, hless.fuel1, hless.bnd, hless.seen, (hk.get _).lo, (hk.get _).hi⟩, rfl, rfl, rfl, rfl, hk⟩
    rw [if_neg k12]
    by_cases k13 : s.k = 13
    · rw [if_pos k13]; exact ⟨hless, rfl, rfl, rfl, rfl, hk.set _ ⟨hm.sh.1, hm.sh.2⟩⟩
    rw [if_neg k13]
    by_cases k7 : s.k = 7
    · rw [if_pos k7]
      split
      · have h9 : OkC n (({ c with recovered := true } : FQ).set s.a c.panic) := OkC.set (c := { c with recovered := true }) ⟨hk.f0, hk.f1, hk.defers, hk.a0, hk.a1, hk.a2, hk.a3, hk.va, hk.pa, hk.ou⟩ _ hk.pa
        exact ⟨htl _ _ _, rfl, rfl, rfl, rfl, h9.f0, h9.f1, h9.defers, h9.a0, h9.a1, h9.a2, sm_1, h9.va, h9.pa, h9.ou⟩
      · have h9 := hk.set s.a sm_0
        exact ⟨hless, rfl, rfl, rfl, rfl, h9.f0, h9.f1, h9.defers, h9.a0, h9.a1, h9.a2, sm_0, h9.va, h9.pa, h9.ou⟩
    rw [if_neg k7];exact ⟨hless, rfl, rfl, rfl, rfl, hk⟩
  obtain ⟨g1, g2, g3, g4, g5, g6⟩ := hs2
  refine ⟨?_, g6, g3, g4, by dsimp only; omega, by dsimp only; omega⟩
  dsimp only
  rw [g2]
  exact g1
theorem qBody_ok {n : Nat} {fuel : Int} {call : CallQ} (hc : CallOkQ n fuel call) {steps : List Stp} (hs : ∀ s ∈ steps, StpOk n s) (hl : steps.length ≤ 8) {x : Nat} : ∀ (k : Nat) (m : MQ) (c : FQ) (at_ : Int), OkQ fuel m (2 * c.defers.length + x) → OkC n c → at_ ≤ 8 →
    (qBody fuel call steps k m c at_).1.spent = false → OkQ fuel (qBody fuel call steps k m c at_).1 (2 * (qBody fuel call steps k m c at_).2.defers.length + x) ∧ OkC n (qBody fuel call steps k m c at_).2 ∧ (qBody fuel call steps k m c at_).2.depth = c.depth ∧ (qBody fuel call steps k m c at_).2.f = c.f ∧ m.made ≤ (qBody fuel call steps k m c at_).1.made := by
  intro k
  induction k with
  | zero => intro m c at_ hm hk _ _; exact ⟨hm, hk, rfl, rfl, Int.le_refl _⟩
  | succ k ih =>
    intro m c at_ hm hk ha hsp;simp only [qBody] at hsp ⊢
    by_cases h0 : 0 ≤ at_
    · rw [if_pos h0] at hsp ⊢
      cases hst : steps[at_.toNat]? with
      | none => rw [hst] at hsp; exact ⟨hm, hk, rfl, rfl, Int.le_refl _⟩
      | some s =>
        rw [hst] at hsp;simp only at hsp ⊢;have hlt := (List.getElem?_eq_some_iff.1 hst).1
        by_cases hf : m.made = fuel
        · rw [if_pos hf] at hsp; cases hsp
        · rw [if_neg hf] at hsp ⊢
          cases hmk : (qMake call (m.step c.f at_) c at_ s).1.spent with
          | true => rw [hmk] at hsp; simp only [if_true] at hsp; rw [hmk] at hsp; cases hsp
          | false =>
            rw [hmk] at hsp;simp only [Bool.false_eq_true, if_false] at hsp ⊢;obtain ⟨h1, h2, h3, h4, h5, h6⟩ := qMake_ok hc (x := x) (hs s (List.mem_of_getElem? hst)) (hm.step hf c.f at_) hk h0 (by omega) hmk;obtain ⟨g1, g2, g3, g4, g5⟩ := ih _ _ _ h1 h2 h5.2 hsp;exact ⟨g1, g2, g3.trans h3, g4.trans h4, by have e9 : (m.step c.f at_).made = m.made + 1 := rfl; omega⟩
    · rw [if_neg h0] at hsp ⊢
      exact ⟨hm, hk, rfl, rfl, Int.le_refl _⟩
theorem qBehind_fix (c d : FQ) : (qBehind c d).f = c.f ∧ (qBehind c d).depth = c.depth ∧ (qBehind c d).defers = c.defers := ⟨rfl, rfl, rfl⟩
theorem qBehind_ok {n : Nat} {c d : FQ} (hc : OkC n c) (hd : OkC n d) : OkC n (qBehind c d) := by
 refine ⟨hc.f0, hc.f1, hc.defers, hc.a0, hd.ou, hc.a2, hc.a3, ?_, hc.pa, hc.ou⟩
 unfold qBehind
 dsimp only
 split
 · exact hd.va
 · exact hc.va
theorem qNew_ok {n : Nat} {c : FQ} {z : Int × Int} (hc : OkC n c) (hz : (0 ≤ z.1 ∧ z.1 < n) ∧ Sm z.2) : OkC n (qNew c z) := by
 refine ⟨hz.1.1, hz.1.2, fun z hz => by simp [qNew] at hz, hz.2, sm_0, sm_0, sm_0, sm_0, ?_, hc.a1⟩
 unfold qNew
 dsimp only
 split
 · exact hc.va
 · exact sm_0
theorem qLast_ok {n : Nat} {fuel : Int} {call : CallQ} (hc : CallOkQ n fuel call) {m : MQ} {c : FQ} {z : Int × Int} {x : Nat} (hm : OkQ fuel m (x + 2)) (hk : OkC n c) (hz : z ∈ c.defers) (hsp : (qLast call m c z).1.spent = false) :
  OkQ fuel (qLast call m c z).1 x ∧ OkC n (qLast call m c z).2 ∧ (qLast call m c z).2.depth = c.depth ∧ (qLast call m c z).2.f = c.f ∧ (qLast call m c z).2.defers = c.defers.dropLast ∧ m.made ≤ (qLast call m c z).1.made := by
 have hfn := hk.defers z hz
 have hk1 : OkC n { c with defers := c.defers.dropLast } := ⟨hk.f0, hk.f1, fun y hy => hk.defers y (List.dropLast_subset _ hy), hk.a0, hk.a1, hk.a2, hk.a3, hk.va, hk.pa, hk.ou⟩
 unfold qLast at hsp ⊢
 dsimp only at hsp ⊢
 cases hr : (call m (qNew { c with defers := c.defers.dropLast } z)).1.spent with
 | true => rw [hr] at hsp; simp only [if_true] at hsp; rw [hr] at hsp; cases hsp
 | false =>
  rw [hr] at hsp
  simp only [Bool.false_eq_true, if_false] at hsp ⊢
  obtain ⟨h1, h3, h2⟩ := hc m (qNew { c with defers := c.defers.dropLast } z) x hm (qNew_ok hk1 hfn) rfl hr
  obtain ⟨e1, e2, e3⟩ := qBehind_fix { c with defers := c.defers.dropLast } (call m (qNew { c with defers := c.defers.dropLast } z)).2
  exact ⟨h1, qBehind_ok hk1 h3, e2, e1, e3, h2⟩
theorem qRuns_ok {n : Nat} {fuel : Int} {call : CallQ} (hc : CallOkQ n fuel call) {x : Nat} : ∀ (k : Nat) (m : MQ) (c : FQ), c.defers.length = k → OkQ fuel m (2 * c.defers.length + x) → OkC n c → (qRuns call k m c).1.spent = false →
  OkQ fuel (qRuns call k m c).1 x ∧ OkC n (qRuns call k m c).2 ∧ (qRuns call k m c).2.f = c.f ∧ (qRuns call k m c).2.defers = [] ∧ m.made ≤ (qRuns call k m c).1.made := by
 intro k
 induction k with
 | zero => intro m c hk hm hok _; exact ⟨hm.less (by omega), hok, rfl, List.eq_nil_of_length_eq_zero hk, Int.le_refl _⟩
 | succ k ih =>
  intro m c hk hm hok hsp
  simp only [qRuns] at hsp ⊢
  cases hl : c.defers.getLast? with
  | none => rw [List.getLast?_eq_none_iff] at hl; rw [hl] at hk; simp at hk
  | some z =>
   rw [hl] at hsp;simp only at hsp ⊢;cases hr : (qLast call m c z).1.spent with
   | true => rw [hr] at hsp; simp only [if_true] at hsp; rw [hr] at hsp; cases hsp
   | false =>
    rw [hr] at hsp;simp only [Bool.false_eq_true, if_false] at hsp ⊢;obtain ⟨h1, h2, h3, h4, h5, h6⟩ := qLast_ok hc (x := 2 * k + x) (hm.less (by omega)) hok (List.mem_of_getLast? hl) hr;have hdl : (qLast call m c z).2.defers.length = k := by rw [h5, List.length_dropLast]; omega
    obtain ⟨g1, g2, g3, g4, g5⟩ := ih _ _ hdl (by rw [hdl]; exact h1) h2 hsp;exact ⟨g1, g2, g3.trans h4, g4, by omega⟩
theorem qEnd_ok {fuel : Int} {m : MQ} {c : FQ} {x : Nat} (hm : OkQ fuel m (x + 1)) : OkQ fuel (qEnd m c) x ∧ (qEnd m c).made = m.made := by
 unfold qEnd
 (repeat' split) <;> first | exact ⟨hm.tell _ _ _, rfl⟩ | exact ⟨hm.less (by omega), rfl⟩
theorem qEnter_ok {fuel : Int} {m : MQ} {c : FQ} {x : Nat} (hm : OkQ fuel m (x + 1)) : OkQ fuel (qEnter m c) x := OkQ.tell (m := { m with deep := max m.deep c.depth }) ⟨hm.sp, hm.made0, hm.made1, hm.fuel1, hm.bnd, hm.seen, hm.sh⟩ _ _ _
theorem qCall_ok {P : List (List Stp)} (hP : ProgOk P) (fuel : Int) : ∀ d, CallOkQ P.length fuel (qCall P fuel d) := by
 intro d
 induction d with
 | zero => intro m c x _ _ _ h; simp [qCall] at h
 | succ d ih =>
  intro m c x hm hok hd hsp
  have h0 := hok.f0
  have h1 := hok.f1
  simp only [qCall] at hsp ⊢
  have hlt : c.f.toNat < P.length := by omega
  have hb : P.getD c.f.toNat [] ∈ P := by rw [List.getD_eq_getElem?_getD, List.getElem?_eq_getElem hlt]; exact List.getElem_mem hlt
  have hme : OkQ fuel (qEnter m c) (x + 1) := qEnter_ok hm
  generalize hB : qBody fuel (qCall P fuel d) (P.getD c.f.toNat []) (fuel - m.made).toNat.succ (qEnter m c) { c with kind := 1 } 0 = B at hsp ⊢
  cases hs : B.1.spent with
  | true => rw [hs] at hsp; simp only [if_true] at hsp; rw [hs] at hsp; cases hsp
  | false =>
   rw [hs] at hsp;simp only [Bool.false_eq_true, if_false] at hsp ⊢;have h2 := qBody_ok (x := x + 1) ih (hP.steps _ hb) (hP.short _ hb) (fuel - m.made).toNat.succ (qEnter m c) { c with kind := 1 } 0 (by rw [hd]; simpa using hme) ⟨h0, h1, (fun z hz => by rw [hd] at hz; cases hz), hok.a0, hok.a1, hok.a2, hok.a3, hok.va, hok.pa, hok.ou⟩ (by omega) (by rw [hB]; exact hs);rw [hB] at h2;obtain ⟨h2, h3, _, _, h5⟩ := h2;have e1 : (qEnter m c).made = m.made := rfl;unfold qTail at hsp ⊢
   generalize hR : qRuns (qCall P fuel d) B.2.defers.length B.1 B.2 = R at hsp ⊢
   cases hr : R.1.spent with
   | true => rw [hr] at hsp; simp only [if_true] at hsp; rw [hr] at hsp; cases hsp
   | false =>
    rw [hr] at hsp;simp only [Bool.false_eq_true, if_false] at hsp ⊢;have k1 := qRuns_ok (x := x + 1) ih _ B.1 B.2 rfl h2 h3 (by rw [hR]; exact hr);rw [hR] at k1;obtain ⟨k1, k2, _, _, k5⟩ := k1;have := qEnd_ok (c := R.2) k1;exact ⟨this.1, k2, by rw [this.2]; omega⟩
structure RM (m : MS) (q : MQ) : Prop where
 made : q.made = m.made
 shared : q.shared = m.shared
 deep : q.deep = m.deepest
 trace : q.trace = m.trace
 seen : q.seen = m.places
structure RF (m : MS) (f : FS) (c : FQ) : Prop where
 fn : c.f = f.fn
 a0 : c.r0 = f.r0
 a1 : c.r1 = f.r1
 a2 : c.r2 = f.r2
 a3 : c.r3 = f.r3
 runs : c.defers = f.runs
 en : c.kind = f.en
 val : f.en = 2 → c.value = panVal m.panics f.pan
 lvg : c.leaving = f.lvg
 dfr : c.deferred = f.dfr
 cnt : c.recovered = f.cnt
 inv : f.en = 1 → f.lvg = false
def pEn (p : Option FS) : Bool := match p with | some q => decide (q.en = 2) | none => false
def pPan (p : Option FS) : Int := match p with | some q => q.pan | none => 0
structure RP (m : MS) (p : Option FS) (o : Int) (c : FQ) : Prop where
 pan : c.panicking = (c.deferred && pEn p)
 val : c.panicking = true → c.panic = panVal m.panics (pPan p)
 out : c.deferred = true → c.outer = o
def Vals (m m' : MS) : Prop := ∀ i : Int, 0 ≤ i → i < m.panics.length → panVal m'.panics i = panVal m.panics i
theorem Vals.refl (m : MS) : Vals m m := fun _ _ _ => rfl
theorem Vals.trans {a b c : MS} (h : Vals a b) (g : a.panics.length ≤ b.panics.length) (k : Vals b c) : Vals a c := fun i h0 h1 => (k i h0 (by omega)).trans (h i h0 h1)
theorem panVal_panAt (l : List PanI) (j : Int) (g : PanI → PanI) (hg : ∀ x, (g x).value = x.value) (i : Int) : panVal (panAt l j g) i = panVal l i := by
 unfold panVal panAt
 rw [List.getD_eq_getElem?_getD, List.getD_eq_getElem?_getD, List.getElem?_modify]
 cases h : l[i.toNat]? with
 | none => simp
 | some x =>
  by_cases hj : j.toNat = i.toNat
  · simp [hj, hg]
  · simp [hj]
theorem panVal_append (l : List PanI) (x : PanI) (i : Int) (h0 : 0 ≤ i) (h : i < l.length) : panVal (l ++ [x]) i = panVal l i := by
 unfold panVal
 rw [List.getD_eq_getElem?_getD, List.getD_eq_getElem?_getD, List.getElem?_append_left (by omega)]
theorem panVal_last (l : List PanI) (x : PanI) : panVal (l ++ [x]) (l.length : Int) = x.value := by
 unfold panVal
 rw [List.getD_eq_getElem?_getD, Int.toNat_natCast, List.getElem?_append_right (Nat.le_refl _), Nat.sub_self]
 rfl
theorem RF.get {m : MS} {f : FS} {c : FQ} (h : RF m f c) (r : Int) : c.get r = f.get r := by unfold FQ.get FS.get; rw [h.a0, h.a1, h.a2, h.a3]
theorem RF.set {m : MS} {f : FS} {c : FQ} (h : RF m f c) (r x : Int) : RF m (f.set r x) (c.set r x) := by
 refine ⟨h.fn, ?_, ?_, ?_, ?_, h.runs, h.en, h.val, h.lvg, h.dfr, h.cnt, h.inv⟩ <;> simp only [FQ.set, FS.set, h.a0, h.a1, h.a2, h.a3]
theorem RF.move {m m' : MS} {f : FS} {c : FQ} (h : RF m f c) (v : f.en = 2 → panVal m'.panics f.pan = panVal m.panics f.pan) : RF m' f c := ⟨h.fn, h.a0, h.a1, h.a2, h.a3, h.runs, h.en, fun e => (h.val e).trans (v e).symm, h.lvg, h.dfr, h.cnt, h.inv⟩
theorem RF.vals {n : Nat} {m m' : MS} {f : FS} {c : FQ} (h : RF m f c) (hf : OkF n m f) (v : Vals m m') : RF m' f c := h.move fun e => v _ (hf.pan e).1 (hf.pan e).2
theorem RP.vals {m m' : MS} {p : Option FS} {o : Int} {c : FQ} (h : RP m p o c) (hp : OkP m p) (v : Vals m m') : RP m' p o c := by
 refine ⟨h.pan, fun e => ?_, h.out⟩
 rw [h.val e]
 have e2 := h.pan
 rw [e] at e2
 cases p with
 | none => simp [pEn] at e2
 | some q =>
  simp only [pEn] at e2
  have h3 := e2.symm
  rw [Bool.and_eq_true, decide_eq_true_eq] at h3
  have h4 := hp q rfl h3.2
  exact (v _ h4.1 h4.2).symm
theorem RP.same {m : MS} {p : Option FS} {o : Int} {c c' : FQ} (h : RP m p o c) (h1 : c'.panicking = c.panicking) (h2 : c'.deferred = c.deferred) (h3 : c'.panic = c.panic) (h4 : c'.outer = c.outer) : RP m p o c' := ⟨by rw [h1, h2]; exact h.pan, by rw [h1, h3]; exact h.val, by rw [h2, h4]; exact h.out⟩
theorem RM.tell {m : MS} {q : MQ} (h : RM m q) (k fn v ow : Int) : RM (m.tell k fn v ow) (qTell q k fn v) := ⟨h.made, h.shared, h.deep, by simp only [MS.tell, qTell, h.trace], h.seen⟩
theorem RM.pan {m : MS} {q : MQ} (h : RM m q) (P : List PanI) (R : List (Int × Int × Int)) : RM { m with panics := P, recs := R } q := ⟨h.made, h.shared, h.deep, h.trace, h.seen⟩
theorem Vals.tell (m : MS) (k fn v ow : Int) : Vals m (m.tell k fn v ow) := fun _ _ _ => rfl
structure Ended (m m' : MS) (f : FS) (p : Option FS) (o o' : Int) (dfr : Bool) (q : MQ) (c : FQ) : Prop where
 sp : q.spent = false
 rm : RM m' q
 rf : RF m' f c
 out : dfr = true → c.outer = o'
 keep : dfr = false → o' = o
 vals : Vals m m'
def CallEq (n : Nat) (fuel : Int) (cS : CallT) (cQ : CallQ) : Prop := ∀ (m : MS) (q : MQ) (fn arg : Int) (p : Option FS) (o : Int) (dfr : Bool) (c : FQ) (x : Nat), RM m q → q.spent = false → OkM fuel m (x + 2) → OkP m p → 0 ≤ fn → fn < n →
 c.f = fn → c.r0 = arg → c.r1 = 0 → c.r2 = 0 → c.r3 = 0 → c.defers = [] → c.deferred = dfr → c.recovered = false → c.leaving = false → RP m p o c → c.depth = m.depth + 1 →
 match cS m fn arg p o dfr with
 | .spent m' => (cQ q c).1.spent = true ∧ RM m' (cQ q c).1
 | .done m' f o' => Ended m m' f p o o' dfr (cQ q c).1 (cQ q c).2
section
variable {n : Nat} {fuel : Int} {cS : CallT} {cQ : CallQ}
theorem step_eq_ (hc : CallEq n fuel cS cQ) (hok : CallOk n fuel cS) {m : MS} {q : MQ} {f : FS} {c : FQ} {p : Option FS} {o at_ : Int} {s : Stp} {x : Nat} (hs : StpOk n s) (hj : ¬ s.k = 11) (hm : OkM fuel m (2 * f.runs.length + x + 3)) (hf : OkF n m f) (hp : OkP m p)
    (rm : RM m q) (hq : q.spent = false) (rf : RF m f c) (rp : RP m p o c) (hd : c.depth = m.depth) :
    match stepS cS m f p o s with
    | .spent m' => (qMake cQ q c at_ s).1.spent = true ∧ RM m' (qMake cQ q c at_ s).1
    | .go m' f' o' e => (qMake cQ q c at_ s).1.spent = false ∧ RM m' (qMake cQ q c at_ s).1 ∧ RF m' f' (qMake cQ q c at_ s).2.1 ∧ RP m' p o' (qMake cQ q c at_ s).2.1 ∧ Vals m m' ∧ (qMake cQ q c at_ s).2.2 = (if e = true then -1 else at_ + 1) ∧ (qMake cQ q c at_ s).2.1.depth = c.depth ∧ (f.dfr = false → o' = o) := by
  unfold stepS qMake
  by_cases k1 : s.k = 1
  · simp only [k1, if_true, qY, show ¬ ((1 : Int) = 4) by decide, show ¬ ((1 : Int) = 5) by decide, show ¬ ((1 : Int) = 6) by decide, show ¬ ((1 : Int) = 8) by decide, show ¬ ((1 : Int) = 10) by decide, show ¬ ((1 : Int) = 11) by decide, if_false]
    exact ⟨hq, rm, rf.set _ _, rp.same rfl rfl rfl rfl, Vals.refl _, by trivial, by trivial, by intros; trivial⟩
  by_cases k2 : s.k = 2
  · simp only [k2, if_true, qY, show ¬ ((2 : Int) = 1) by decide, show ¬ ((2 : Int) = 4) by decide, show ¬ ((2 : Int) = 5) by decide, show ¬ ((2 : Int) = 6) by decide, show ¬ ((2 : Int) = 8) by decide, show ¬ ((2 : Int) = 10) by decide, show ¬ ((2 : Int) = 11) by decide, if_false, rf.get]
    exact ⟨hq, rm, rf.set _ _, rp.same rfl rfl rfl rfl, Vals.refl _, by trivial, by trivial, by intros; trivial⟩
  by_cases k3 : s.k = 3
  · simp only [k3, if_true, qY, show ¬ ((3 : Int) = 1) by decide, show ¬ ((3 : Int) = 2) by decide, show ¬ ((3 : Int) = 4) by decide, show ¬ ((3 : Int) = 5) by decide, show ¬ ((3 : Int) = 6) by decide, show ¬ ((3 : Int) = 8) by decide, show ¬ ((3 : Int) = 10) by decide, show ¬ ((3 : Int) = 11) by decide, if_false, rf.get, rf.fn]
    exact ⟨hq, rm.tell _ _ _ _, rf.move fun _ => rfl, ⟨rp.pan, rp.val, rp.out⟩, Vals.tell _ _ _ _ _, by trivial, by trivial, by intros; trivial⟩
  by_cases k4 : s.k = 4
  · simp only [k4, if_true, show ¬ ((4 : Int) = 1) by decide, show ¬ ((4 : Int) = 2) by decide, show ¬ ((4 : Int) = 3) by decide, if_false]
    have hfn := hs.f (.inl k4)
    have hI := hc m q s.a (f.get s.b) (some f) f.r1 false (FQ.new s.a (c.depth + 1) (c.get s.b)) (2 * f.runs.length + x) rm hq (hm.less (by omega)) (fun r hr he => by cases hr; exact hf.pan he) hfn.1 hfn.2 rfl (rf.get _) rfl rfl rfl rfl rfl rfl rfl
      ⟨rfl, fun h => by simp [FQ.new] at h, fun h => by simp [FQ.new] at h⟩ (by simp only [FQ.new, hd])
    have hO := hok m s.a (f.get s.b) (some f) f.r1 false;cases hr : cS m s.a (f.get s.b) (some f) f.r1 false with
    | spent m1 =>
      rw [hr] at hI;simp only at hI ⊢;unfold qInner
      dsimp only
      (repeat' split) <;> exact hI
    | done m1 dd o1 =>
      rw [hr] at hI;simp only at hI ⊢;obtain ⟨_, hgr, hdd⟩ := hO m1 dd o1 (2 * f.runs.length + x) (hm.less (by omega)) hfn.1 hfn.2 hr;have e1 := hI.keep rfl;have rf1 := rf.vals hf hI.vals;have rp1 := rp.vals hp hI.vals;have hk := hI.rf.en;have hlv := hI.rf.lvg;unfold qInner
      by_cases d1 : dd.en = 1
      · rw [d1] at hk
        have hinv := hI.rf.inv d1;simp only [hk, d1, if_true];refine ⟨hI.sp, hI.rm, ⟨rf1.fn, rf1.a0, by rw [e1]; exact rf1.a1, hI.rf.a1, rf1.a3, rf1.runs, rf1.en, rf1.val, by rw [hinv, Bool.or_false]; exact rf1.lvg, rf1.dfr, rf1.cnt, fun e => by rw [hinv, Bool.or_false]; exact rf1.inv e⟩, rp1.same rfl rfl rfl rfl, hI.vals, by trivial, by trivial, by intros; trivial⟩
      · rcases hdd.en with h | h | h
        · exact absurd h d1
        · rw [h] at hk
          simp only [hk, h, show ¬ ((2 : Int) = 1) by decide, if_true, if_false];refine ⟨hI.sp, hI.rm, ⟨rf1.fn, rf1.a0, by rw [e1]; exact rf1.a1, rf1.a2, rf1.a3, rf1.runs, rfl, fun _ => hI.rf.val h, by rw [rf1.lvg, hlv], rf1.dfr, rf1.cnt, fun e => by simp at e⟩, rp1.same rfl rfl rfl rfl, hI.vals, by trivial, by trivial, by intros; trivial⟩
        · rw [h] at hk
          simp only [hk, h, show ¬ ((3 : Int) = 1) by decide, show ¬ ((3 : Int) = 2) by decide, if_true, if_false];refine ⟨hI.sp, hI.rm, ⟨rf1.fn, rf1.a0, by rw [e1]; exact rf1.a1, rf1.a2, rf1.a3, rf1.runs, rfl, fun e => by simp at e, by rw [rf1.lvg, hlv], rf1.dfr, rf1.cnt, fun e => by simp at e⟩, rp1.same rfl rfl rfl rfl, hI.vals, by trivial, by trivial, by intros; trivial⟩
  by_cases k5 : s.k = 5
  · simp only [k5, if_true, show ¬ ((5 : Int) = 1) by decide, show ¬ ((5 : Int) = 2) by decide, show ¬ ((5 : Int) = 3) by decide, show ¬ ((5 : Int) = 4) by decide, if_false, rf.get]
    exact ⟨hq, rm.tell _ _ _ _, ⟨rf.fn, rf.a0, rf.a1, rf.a2, rf.a3, by rw [rf.runs], rf.en, rf.val, rf.lvg, rf.dfr, rf.cnt, rf.inv⟩, ⟨rp.pan, rp.val, rp.out⟩, Vals.tell _ _ _ _ _, by trivial, by trivial, by intros; trivial⟩
  by_cases k6 : s.k = 6
  · simp only [k6, if_true, show ¬ ((6 : Int) = 1) by decide, show ¬ ((6 : Int) = 2) by decide, show ¬ ((6 : Int) = 3) by decide, show ¬ ((6 : Int) = 4) by decide, show ¬ ((6 : Int) = 5) by decide, if_false, rf.get, rf.fn]
    have hv : Vals m (({ m with panics := m.panics ++ [{ call := f.id, fn := f.fn, value := f.get s.a, depth := m.depth, fate := 0, by_ := -1, last := -1, again := f.cnt, unw := [] }] } : MS).tell 5 f.fn (f.get s.a) f.id) := fun i h0 h1 => panVal_append _ _ _ h0 h1;refine ⟨hq, (RM.pan rm _ m.recs).tell _ _ _ _, ⟨by first | rfl | exact rf.fn, rf.a0, rf.a1, rf.a2, rf.a3, rf.runs, rfl, fun _ => ?_, rf.lvg, rf.dfr, rf.cnt, fun e => by simp at e⟩, (rp.vals hp hv).same rfl rfl rfl rfl, hv, by trivial, by trivial, by intros; trivial⟩
    show f.get s.a = panVal (m.panics ++ [_]) (m.panics.length : Int)
    rw [panVal_last]
  by_cases k7 : s.k = 7
  · simp only [k7, if_true, qY, show ¬ ((7 : Int) = 1) by decide, show ¬ ((7 : Int) = 2) by decide, show ¬ ((7 : Int) = 3) by decide, show ¬ ((7 : Int) = 4) by decide, show ¬ ((7 : Int) = 5) by decide, show ¬ ((7 : Int) = 6) by decide, show ¬ ((7 : Int) = 8) by decide, show ¬ ((7 : Int) = 9) by decide, show ¬ ((7 : Int) = 10) by decide, show ¬ ((7 : Int) = 11) by decide, show ¬ ((7 : Int) = 12) by decide, show ¬ ((7 : Int) = 13) by decide, if_false]
    have hcond : (c.panicking && !c.recovered) = canRec f p := by
      rw [rp.pan, rf.dfr, rf.cnt];unfold canRec pEn;cases p <;> cases f.dfr <;> cases f.cnt <;> simp
    unfold zY;cases p with
    | none =>
      have h0 : canRec f none = false := by simp [canRec]
      rw [hcond, h0];simp only [Bool.false_eq_true, if_false];have h9 := rf.set s.a 0;exact ⟨hq, rm, ⟨h9.fn, h9.a0, h9.a1, h9.a2, rfl, h9.runs, h9.en, h9.val, h9.lvg, h9.dfr, h9.cnt, h9.inv⟩, rp.same rfl rfl rfl rfl, Vals.refl _, by trivial, by trivial, by intros; trivial⟩
    | some r =>
      rw [hcond];cases hcr : canRec f (some r) with
      | false =>
        simp only [Bool.false_eq_true, if_false];have h9 := rf.set s.a 0;exact ⟨hq, rm, ⟨h9.fn, h9.a0, h9.a1, h9.a2, rfl, h9.runs, h9.en, h9.val, h9.lvg, h9.dfr, h9.cnt, h9.inv⟩, rp.same rfl rfl rfl rfl, Vals.refl _, by trivial, by trivial, by intros; trivial⟩
      | true =>
        simp only [if_true];rw [hcr] at hcond;have hpk := (Bool.and_eq_true_iff.1 hcond).1;have hval : c.panic = panVal m.panics r.pan := rp.val hpk;have hv : Vals m (recM m f r) := fun i _ _ => panVal_panAt m.panics r.pan (fun x => { x with fate := 1 }) (fun _ => rfl) i;have h9 := (rf.vals hf hv).set s.a (panVal m.panics r.pan);rw [hval, rf.fn];refine ⟨hq, (by unfold recM; exact (RM.pan rm _ _).tell _ _ _ _), ⟨by first | rfl | exact h9.fn, h9.a0, h9.a1, h9.a2, rfl, h9.runs, h9.en, h9.val, h9.lvg, h9.dfr, rfl, h9.inv⟩, (rp.vals hp hv).same rfl rfl hval.symm rfl, hv, by trivial, by trivial, by intros; trivial⟩
  by_cases k8 : s.k = 8
  · simp only [k8, if_true, show ¬ ((8 : Int) = 1) by decide, show ¬ ((8 : Int) = 2) by decide, show ¬ ((8 : Int) = 3) by decide, show ¬ ((8 : Int) = 4) by decide, show ¬ ((8 : Int) = 5) by decide, show ¬ ((8 : Int) = 6) by decide, show ¬ ((8 : Int) = 7) by decide, if_false, rf.get]
    exact ⟨hq, rm, ⟨rf.fn, rf.a0, rfl, rf.a2, rf.a3, rf.runs, rf.en, rf.val, rf.lvg, rf.dfr, rf.cnt, rf.inv⟩, rp.same rfl rfl rfl rfl, Vals.refl _, by trivial, by trivial, by intros; trivial⟩
  by_cases k9 : s.k = 9
  · simp only [k9, if_true, qY, show ¬ ((9 : Int) = 1) by decide, show ¬ ((9 : Int) = 2) by decide, show ¬ ((9 : Int) = 3) by decide, show ¬ ((9 : Int) = 4) by decide, show ¬ ((9 : Int) = 5) by decide, show ¬ ((9 : Int) = 6) by decide, show ¬ ((9 : Int) = 7) by decide, show ¬ ((9 : Int) = 8) by decide, show ¬ ((9 : Int) = 10) by decide, show ¬ ((9 : Int) = 11) by decide, if_false, rf.get, rf.dfr]
    cases hfd : f.dfr with
    | true =>
      simp only [if_true];exact ⟨hq, rm, ⟨rf.fn, rf.a0, rf.a1, rf.a2, rf.a3, rf.runs, rf.en, rf.val, rf.lvg, hfd.symm, rf.cnt, rf.inv⟩, ⟨by have h9 := rp.pan; rw [rf.dfr, hfd] at h9; exact h9, rp.val, fun _ => rfl⟩, Vals.refl _, by trivial, by trivial, by simp⟩
    | false =>
      simp only [Bool.false_eq_true, if_false];exact ⟨hq, rm, rf, rp, Vals.refl _, by trivial, by trivial, by intros; trivial⟩
  by_cases k10 : s.k = 10
  · simp only [k10, if_true, show ¬ ((10 : Int) = 1) by decide, show ¬ ((10 : Int) = 2) by decide, show ¬ ((10 : Int) = 3) by decide, show ¬ ((10 : Int) = 4) by decide, show ¬ ((10 : Int) = 5) by decide, show ¬ ((10 : Int) = 6) by decide, show ¬ ((10 : Int) = 7) by decide, show ¬ ((10 : Int) = 8) by decide, show ¬ ((10 : Int) = 9) by decide, if_false]
    exact ⟨hq, rm, ⟨rf.fn, rf.a0, rf.a1, rf.a2, rf.a3, rf.runs, rfl, fun e => by simp at e, rfl, rf.dfr, rf.cnt, fun e => by simp at e⟩, rp.same rfl rfl rfl rfl, Vals.refl _, by trivial, by trivial, by intros; trivial⟩
  by_cases k12 : s.k = 12
  · simp only [k12, if_true, qY, show ¬ ((12 : Int) = 1) by decide, show ¬ ((12 : Int) = 2) by decide, show ¬ ((12 : Int) = 3) by decide, show ¬ ((12 : Int) = 4) by decide, show ¬ ((12 : Int) = 5) by decide, show ¬ ((12 : Int) = 6) by decide, show ¬ ((12 : Int) = 7) by decide, show ¬ ((12 : Int) = 8) by decide, show ¬ ((12 : Int) = 9) by decide, show ¬ ((12 : Int) = 10) by decide, show ¬ ((12 : Int) = 11) by decide, if_false, rf.get]
    exact ⟨hq, ⟨rm.made, rfl, rm.deep, rm.trace, rm.seen⟩, rf.move fun _ => rfl, ⟨rp.pan, rp.val, rp.out⟩, fun _ _ _ => rfl, by trivial, by trivial, by intros; trivial⟩
  by_cases k13 : s.k = 13
  · simp only [k13, if_true, qY, show ¬ ((13 : Int) = 1) by decide, show ¬ ((13 : Int) = 2) by decide, show ¬ ((13 : Int) = 3) by decide, show ¬ ((13 : Int) = 4) by decide, show ¬ ((13 : Int) = 5) by decide, show ¬ ((13 : Int) = 6) by decide, show ¬ ((13 : Int) = 7) by decide, show ¬ ((13 : Int) = 8) by decide, show ¬ ((13 : Int) = 9) by decide, show ¬ ((13 : Int) = 10) by decide, show ¬ ((13 : Int) = 11) by decide, show ¬ ((13 : Int) = 12) by decide, if_false, rm.shared]
    exact ⟨hq, rm, rf.set _ _, rp.same rfl rfl rfl rfl, Vals.refl _, by trivial, by trivial, by intros; trivial⟩
  have h0 := hs.k0
  have h1 := hs.k1
  omega
theorem RM.step {m : MS} {q : MQ} (h : RM m q) (fn : Int) (at_ : Nat) : RM (m.step fn at_) (q.step fn at_) := ⟨by simp only [MS.step, MQ.step, h.made], h.shared, h.deep, h.trace, by simp only [MS.step, MQ.step, h.seen]⟩
theorem body_eq_ (hc : CallEq n fuel cS cQ) (hok : CallOk n fuel cS) {steps : List Stp} (hs : ∀ s ∈ steps, StpOk n s) {p : Option FS} {x : Nat} : ∀ (k : Nat) (m : MS) (q : MQ) (f : FS) (c : FQ) (o : Int) (at_ : Nat) (aq : Int), OkM fuel m (2 * f.runs.length + x) → OkF n m f → OkP m p →
    RM m q → q.spent = false → RF m f c → RP m p o c → c.depth = m.depth → aq = (at_ : Int) → (fuel - m.made).toNat < k →
    match bodyS fuel cS steps p k m f o at_ with
    | .spent m' => (qBody fuel cQ steps k q c aq).1.spent = true ∧ RM m' (qBody fuel cQ steps k q c aq).1
    | .done m' f' o' => (qBody fuel cQ steps k q c aq).1.spent = false ∧ RM m' (qBody fuel cQ steps k q c aq).1 ∧ RF m' f' (qBody fuel cQ steps k q c aq).2 ∧ RP m' p o' (qBody fuel cQ steps k q c aq).2 ∧ Vals m m' ∧ (qBody fuel cQ steps k q c aq).2.depth = c.depth ∧ (f.dfr = false → o' = o) ∧ f'.dfr = f.dfr := by
  intro k
  induction k with
  | zero => intro m q f c o at_ aq _ _ _ _ _ _ _ _ _ hk; omega
  | succ k ih =>
    intro m q f c o at_ aq hm hf hp rm hq rf rp hd ha hkk;subst ha;have hmd0 := hm.made0;have hmd1 := hm.made1;simp only [bodyS, qBody, if_pos (Int.natCast_nonneg at_), Int.toNat_natCast];cases hst : steps[at_]? with
    | none => exact ⟨hq, rm, rf, rp, Vals.refl _, rfl, fun _ => rfl, rfl⟩
    | some s =>
      have hso := hs s (List.mem_of_getElem? hst)
      simp only
      rw [rm.made]
      by_cases hmf : m.made = fuel
      · rw [if_pos hmf, if_pos hmf]
        exact ⟨rfl, rfl, rm.shared, rm.deep, rm.trace, rm.seen⟩
      · rw [if_neg hmf, if_neg hmf]
        have hm1 := hm.step hmf f.fn at_;have g1 := Grew.step m f.fn at_;have hf1 := hf.grew g1;have hp1 := hp.grew g1;have rm1 := rm.step f.fn at_;rw [rf.fn];have rf1 : RF (m.step f.fn at_) f c := rf.move fun _ => rfl;have rp1 : RP (m.step f.fn at_) p o c := rp.vals hp (fun _ _ _ => rfl)
        by_cases hk : s.k = 11
        · rw [if_pos hk]
          have hmk : qMake cQ (q.step f.fn at_) c at_ s = (q.step f.fn at_, c, if f.get s.b > 0 then s.a else (at_ : Int) + 1) := by
            unfold qMake;rw [rf.get];simp only [hk, show ¬ ((11 : Int) = 4) by decide, show ¬ ((11 : Int) = 5) by decide, show ¬ ((11 : Int) = 6) by decide, show ¬ ((11 : Int) = 8) by decide, show ¬ ((11 : Int) = 10) by decide, if_true, if_false]
          rw [hmk];have hsp : (q.step f.fn at_).spent = false := hq;simp only [hsp, Bool.false_eq_true, if_false];have hj := hso.j hk;have := ih (m.step f.fn at_) (q.step f.fn at_) f c o (if f.get s.b > 0 then s.a.toNat else at_ + 1) (if f.get s.b > 0 then s.a else (at_ : Int) + 1) (hm1.less (by omega)) hf1 hp1 rm1 hsp rf1 rp1 hd (by split <;> omega) (by have e9 : (m.step f.fn at_).made = m.made + 1 := rfl; omega)
          generalize bodyS fuel cS steps p k (m.step f.fn at_) f o (if f.get s.b > 0 then s.a.toNat else at_ + 1) = B at this ⊢
          cases B with
          | spent m' =>
            simp only at this ⊢;exact this
          | done m' f' o' =>
            simp only at this ⊢;obtain ⟨h1, h2, h3, h4, h5, h6, h7, h8⟩ := this;exact ⟨h1, h2, h3, h4, fun i a b => h5 i a b, h6, h7, h8⟩
        · rw [if_neg hk]
          have hS := step_eq_ hc hok (at_ := (at_ : Int)) hso hk hm1 hf1 hp1 rm1 hq rf1 rp1 hd;have hO := @stepS_ok n fuel cS hok (m.step f.fn at_) f p o s;cases hst2 : stepS cS (m.step f.fn at_) f p o s with
          | spent m' =>
            rw [hst2] at hS;simp only at hS ⊢;rw [hS.1];simp only [if_true];exact hS
          | go m' f' o' e =>
            rw [hst2] at hS;obtain ⟨h1, h2, h3, h4, h5, h6, h7, h8⟩ := hS;obtain ⟨k1, k2, k3⟩ := hO hso hm1 hf1 hst2;have hfx := stepS_fix hst2;have v1 : Vals m m' := fun i a b => h5 i a b;rw [h1];simp only [Bool.false_eq_true, if_false];cases e with
            | true =>
              simp only [if_true] at h6 ⊢;rw [h6, qBody_out _ _ _ _ _ _ (by omega)];exact ⟨h1, h2, h3, h4, v1, h7, h8, hfx.2.1⟩
            | false =>
              simp only [Bool.false_eq_true, if_false] at h6 ⊢;rw [h6];have := ih m' _ f' _ o' (at_ + 1) ((at_ : Int) + 1) k1 k3 (hp1.grew k2) h2 h1 h3 h4 (by rw [h7, hd]; exact k2.depth.symm) rfl (by have e9 : (m.step f.fn at_).made = m.made + 1 := rfl; have := k2.made; omega)
              generalize bodyS fuel cS steps p k m' f' o' (at_ + 1) = B at this ⊢
              cases B with
              | spent m'' =>
                simp only at this ⊢;exact this
              | done m'' f'' o'' =>
                simp only at this ⊢;obtain ⟨j1, j2, j3, j4, j5, j6, j7, j8⟩ := this;exact ⟨j1, j2, j3, j4, v1.trans (g1.trans k2).pans j5, j6.trans h7, fun hfd => (j7 (by rw [hfx.2.1]; exact hfd)).trans (h8 hfd), j8.trans hfx.2.1⟩
theorem behind_eq_ {m : MS} {q : MQ} {f d : FS} {c dq : FQ} {p : Option FS} {o : Int} (hf : OkF n m f) (hd : OkF n m d) (hp : OkP m p) (rm : RM m q) (rf : RF m f c) (rd : RF m d dq) (rp : RP m p o c) (o1 : Int) (ho : dq.outer = o1) :
    RM (yK m { f with r1 := o1 } d) q ∧ RF (yK m { f with r1 := o1 } d) (yZ { f with r1 := o1 } d) (qBehind c dq) ∧ RP (yK m { f with r1 := o1 } d) p o (qBehind c dq) ∧ Vals m (yK m { f with r1 := o1 } d) := by
  have hv : Vals m (yK m { f with r1 := o1 } d) := by
    intro i _ _;unfold yK
    (repeat' split) <;> first | rfl | exact (panVal_panAt _ _ (fun x => { x with last := f.pan }) (fun _ => rfl) i).trans (panVal_panAt _ _ (fun x => { x with fate := 2, by_ := d.pan }) (fun _ => rfl) i) | exact panVal_panAt _ _ (fun x => { x with fate := 4 }) (fun _ => rfl) i
  have hrm : RM (yK m { f with r1 := o1 } d) q := by
    unfold yK
    (repeat' split) <;> exact ⟨rm.made, rm.shared, rm.deep, rm.trace, rm.seen⟩
  have rf1 := rf.vals hf hv
  have rd1 := rd.vals hd hv
  refine ⟨hrm, ?_, (rp.vals hp hv).same rfl rfl rfl rfl, hv⟩
  generalize yK m { f with r1 := o1 } d = M at rf1 rd1
  have hlv : (c.leaving || dq.leaving) = (f.lvg || d.lvg) := by rw [rf.lvg, rd.lvg]
  unfold yZ qBehind
  rw [hlv, rd.en, rd.cnt]
  by_cases e2 : d.en = 2
  · rw [if_pos e2]
    simp only [e2, show ¬ ((2 : Int) = 3) by decide, if_true, if_false];exact ⟨rf.fn, rf.a0, ho, rf.a2, rf.a3, rf.runs, rfl, fun _ => rd1.val e2, rfl, rf.dfr, rf.cnt, fun e => by simp at e⟩
  · rw [if_neg e2]
    by_cases e3 : d.en = 3
    · rw [if_pos e3]
      simp only [e3, show ¬ ((3 : Int) = 2) by decide, if_true, if_false];exact ⟨rf.fn, rf.a0, ho, rf.a2, rf.a3, rf.runs, rfl, fun e => by simp at e, rfl, rf.dfr, rf.cnt, fun e => by simp at e⟩
    · rw [if_neg e3]
      have e1 : d.en = 1 := by rcases hd.en with h | h | h <;> first | exact h | exact absurd h e2 | exact absurd h e3
      have hdl := rd.inv e1;simp only [e2, e3, if_false]
      by_cases hc : d.cnt = true
      · rw [if_pos hc]
        simp only [hc, if_true];refine ⟨rf.fn, rf.a0, ho, rf.a2, rf.a3, rf.runs, rfl, fun e => ?_, rfl, rf.dfr, rf.cnt, fun e => ?_⟩
        · dsimp only at e
          split at e <;> simp at e
        · dsimp only at e ⊢
          split at e
          · simp at e
          · rename_i h; simpa using h
      · rw [if_neg hc]
        simp only [hc, if_false, Bool.false_eq_true];exact ⟨rf.fn, rf.a0, ho, rf.a2, rf.a3, rf.runs, rf.en, rf1.val, rfl, rf.dfr, rf.cnt, fun e => by rw [hdl, Bool.or_false]; exact rf.inv e⟩
theorem runs_eq_ (hc : CallEq n fuel cS cQ) (hok : CallOk n fuel cS) {p : Option FS} {o : Int} {x : Nat} : ∀ (k : Nat) (m : MS) (q : MQ) (f : FS) (c : FQ), f.runs.length = k → OkM fuel m (2 * f.runs.length + x) → OkF n m f → OkP m p →
    RM m q → q.spent = false → RF m f c → RP m p o c → c.depth = m.depth →
    match runsS cS k m f p o with
    | .spent m' => (qRuns cQ k q c).1.spent = true ∧ RM m' (qRuns cQ k q c).1
    | .done m' f' o' => (qRuns cQ k q c).1.spent = false ∧ RM m' (qRuns cQ k q c).1 ∧ RF m' f' (qRuns cQ k q c).2 ∧ RP m' p o (qRuns cQ k q c).2 ∧ Vals m m' ∧ o' = o ∧ f'.dfr = f.dfr := by
  intro k
  induction k with
  | zero => intro m q f c hk hm hf hp rm hq rf rp hd; exact ⟨hq, rm, rf, rp, Vals.refl _, rfl, rfl⟩
  | succ k ih =>
    intro m q f c hk hm hf hp rm hq rf rp hd;simp only [runsS, qRuns, rf.runs];cases hl : f.runs.getLast? with
    | none => exact ⟨hq, rm, rf, rp, Vals.refl _, rfl, rfl⟩
    | some z =>
      have hz := hf.runs z (List.mem_of_getLast? hl);have hdl : f.runs.dropLast.length = k := by rw [List.length_dropLast]; omega
      simp only [qLast, rf.runs]
      have hI := hc m q z.1 z.2 (some { f with runs := f.runs.dropLast }) f.r1 true (qNew { c with defers := f.runs.dropLast } z) (2 * k + x) rm hq (hm.less (by omega)) (fun r hr he => by cases hr; exact hf.pan he) hz.1 hz.2 rfl rfl rfl rfl rfl rfl rfl rfl rfl
        ⟨by simp only [qNew, pEn, Bool.true_and, rf.en], fun h => by
          simp only [qNew, decide_eq_true_eq] at h;simp only [qNew, h, if_true, pPan]
          exact rf.val (rf.en ▸ h), fun _ => rf.a1⟩ (by simp only [qNew, hd])
      have hO := hok m z.1 z.2 (some { f with runs := f.runs.dropLast }) f.r1 true;cases hr : cS m z.1 z.2 (some { f with runs := f.runs.dropLast }) f.r1 true with
      | spent m1 =>
        rw [hr] at hI;simp only at hI ⊢;rw [hI.1];simp only [if_true];rw [hI.1];simp only [if_true];exact hI
      | done m1 d o1 =>
        rw [hr] at hI;simp only at hI ⊢;obtain ⟨h1, h2, h3⟩ := hO m1 d o1 (2 * k + x) (hm.less (by omega)) hz.1 hz.2 hr;rw [hI.sp];simp only [Bool.false_eq_true, if_false];rw [hI.sp];simp only [Bool.false_eq_true, if_false];have hf0 := hf.grew h2;have hf1 : OkF n m1 { f with runs := f.runs.dropLast } := ⟨hf0.id0, hf0.id1, hf0.fn0, hf0.fn1, hf0.en, hf0.pan, fun z hz => hf0.runs z (List.dropLast_subset _ hz)⟩;have rf0 := rf.vals hf hI.vals;have rf1 : RF m1 { f with runs := f.runs.dropLast } { c with defers := f.runs.dropLast } := ⟨rf0.fn, rf0.a0, rf0.a1, rf0.a2, rf0.a3, rfl, rf0.en, rf0.val, rf0.lvg, rf0.dfr, rf0.cnt, rf0.inv⟩;have rp1 : RP m1 p o { c with defers := f.runs.dropLast } := (rp.vals hp hI.vals).same rfl rfl rfl rfl;obtain ⟨b1, b2, b3, b4⟩ := behind_eq_ hf1 h3 (hp.grew h2) hI.rm rf1 hI.rf rp1 o1 (hI.out rfl);have hf2 : OkF n m1 { f with runs := f.runs.dropLast, r1 := o1 } := ⟨hf1.id0, hf1.id1, hf1.fn0, hf1.fn1, hf1.en, hf1.pan, hf1.runs⟩;obtain ⟨k1, k2, k3⟩ := behind_ok h1 hf2 h3;have hru : (yZ { f with runs := f.runs.dropLast, r1 := o1 } d).runs = f.runs.dropLast := by unfold yZ; (repeat' split) <;> rfl
        have hdf : (yZ { f with runs := f.runs.dropLast, r1 := o1 } d).dfr = f.dfr := by unfold yZ; (repeat' split) <;> rfl
        have := ih (yK m1 { f with runs := f.runs.dropLast, r1 := o1 } d) _ (yZ { f with runs := f.runs.dropLast, r1 := o1 } d) _ (by rw [hru]; exact hdl) (by rw [hru, hdl]; exact k1) k3 ((hp.grew h2).grew k2) b1 hI.sp b2 b3 (by show c.depth = _; rw [hd, k2.depth, h2.depth])
        generalize runsS cS k (yK m1 { f with runs := f.runs.dropLast, r1 := o1 } d) (yZ { f with runs := f.runs.dropLast, r1 := o1 } d) p o = B at this ⊢
        cases B with
        | spent m' => exact this
        | done m' f' o' =>
          simp only at this ⊢;obtain ⟨j1, j2, j3, j4, j5, j6, j7⟩ := this;exact ⟨j1, j2, j3, j4, (hI.vals.trans h2.pans b4).trans (h2.trans k2).pans j5, j6, j7.trans hdf⟩
theorem end_eq_ {m : MS} {q : MQ} {f : FS} {c : FQ} (hf : OkF n m f) (rm : RM m q) (rf : RF m f c) : RM (finishS m f) (qEnd q c) ∧ Vals m (finishS m f) := by
  have hv : Vals m (finishS m f) := by
    intro i _ _;simp only [finishS, MS.tell]
    split
    · exact panVal_panAt _ _ (fun x => { x with unw := x.unw ++ [f.fn] }) (fun _ => rfl) i
    · rfl
  refine ⟨?_, hv⟩
  have key : ∀ (ps : List PanI) (cs : List CallI) (k fn v ow : Int), RM (({ m with panics := ps, calls := cs } : MS).tell k fn v ow) (qTell q k fn v) := fun ps cs k fn v ow => RM.tell (m := { m with panics := ps, calls := cs }) ⟨rm.made, rm.shared, rm.deep, rm.trace, rm.seen⟩ _ _ _ _
  unfold finishS qEnd finKind finVal
  rw [rf.en, rf.fn]
  rcases hf.en with h | h | h
  · simp only [h, if_true, rf.a1]
    exact key _ _ _ _ _ _
  · rw [rf.val h]
    simp only [h, show ¬ ((2 : Int) = 1) by decide, if_true, if_false];exact key _ _ _ _ _ _
  · simp only [h, show ¬ ((3 : Int) = 1) by decide, show ¬ ((3 : Int) = 2) by decide, if_true, if_false]
    exact key _ _ _ _ _ _
theorem call_eq {P : List (List Stp)} (hP : ProgOk P) (fuel : Int) : ∀ d, CallEq P.length fuel (callS P fuel d) (qCall P fuel d) := by
  intro d
  induction d with
  | zero => intro m q fn arg p o dfr c x rm hq hm hp h0 h1 _ _ _ _ _ _ _ _ _ _ _; exact ⟨rfl, rm.made, rm.shared, rm.deep, rm.trace, rm.seen⟩
  | succ d ih =>
    intro m q fn arg p o dfr c x rm hq hm hp h0 h1 c0 c1 c2 c3 c4 c5 c6 c7 c8 rp hd;subst c0;have hok := callS_ok hP fuel d;have hlt : c.f.toNat < P.length := by omega
    have hsteps : ∀ s ∈ P.getD c.f.toNat [], StpOk P.length s := by
      rw [List.getD_eq_getElem?_getD, List.getElem?_eq_getElem hlt];exact hP.steps _ (List.getElem_mem hlt)
    have hme : OkM fuel (m.enter c.f arg (parId p) dfr) (x + 1) := OkM.enter hm _ _ _ _
    have hfe : OkF P.length (m.enter c.f arg (parId p) dfr) (m.frame c.f arg dfr) := by
      refine ⟨?_, ?_, h0, h1, .inl rfl, fun e => by simp [MS.frame] at e, fun z hz => by simp [MS.frame] at hz⟩
      · simp only [MS.frame]; omega
      · simp only [MS.frame, MS.enter, MS.tell, List.length_append, List.length_cons, List.length_nil]; omega
    have rme : RM (m.enter c.f arg (parId p) dfr) (qEnter q c) := by
      refine ⟨rm.made, rm.shared, ?_, ?_, rm.seen⟩
      · simp only [MS.enter, qEnter, qTell, rm.deep, hd]
      · simp only [MS.enter, MS.tell, qEnter, qTell, rm.trace, c1, c6]
    have rfe : RF (m.enter c.f arg (parId p) dfr) (m.frame c.f arg dfr) { c with kind := 1 } := ⟨rfl, c1, c2, c3, c4, c5, rfl, fun e => by simp [MS.frame] at e, c8, c6, c7, fun _ => rfl⟩;have hpe : OkP (m.enter c.f arg (parId p) dfr) p := fun q hq => hp q hq;have rpe : RP (m.enter c.f arg (parId p) dfr) p o { c with kind := 1 } := ⟨rp.pan, rp.val, rp.out⟩;simp only [callS, qCall];rw [rm.made];have hB := body_eq_ (x := x + 1) ih hok hsteps (fuel - m.made).toNat.succ (m.enter c.f arg (parId p) dfr) (qEnter q c) (m.frame c.f arg dfr) { c with kind := 1 } o 0 0 (by simpa [MS.frame] using hme) hfe hpe rme hq rfe rpe hd rfl (Nat.lt_succ_self _);have hBO := @bodyS_ok P.length fuel (callS P fuel d) hok (P.getD c.f.toNat []) hsteps p (x + 1) (fuel - m.made).toNat.succ (m.enter c.f arg (parId p) dfr) (m.frame c.f arg dfr) o 0;cases hb : bodyS fuel (callS P fuel d) (P.getD c.f.toNat []) p (fuel - m.made).toNat.succ (m.enter c.f arg (parId p) dfr) (m.frame c.f arg dfr) o 0 with
    | spent m1 =>
      rw [hb] at hB;simp only at hB ⊢;rw [hB.1];simp only [if_true];exact hB
    | done m1 f1 o1 =>
      rw [hb] at hB;obtain ⟨b1, b2, b3, b4, b5, b6, b7, b8⟩ := hB;obtain ⟨g1, g2, g3⟩ := hBO (by simpa [MS.frame] using hme) hfe hb
      simp only
      rw [b1];simp only [Bool.false_eq_true, if_false, b3.runs];have hR := runs_eq_ (p := p) (o := o1) (x := x + 1) ih hok f1.runs.length m1 _ f1 _ rfl g1 g3 (hpe.grew g2) b2 b1 b3 b4 (by rw [b6, g2.depth]; exact hd);have hRO := @runsS_ok P.length fuel (callS P fuel d) hok p (x + 1) f1.runs.length m1 f1 o1;have hdfr1 : f1.dfr = dfr := b8;cases hr : runsS (callS P fuel d) f1.runs.length m1 f1 p o1 with
      | spent m2 =>
        rw [hr] at hR;simp only at hR ⊢;unfold qTail;rw [hR.1];simp only [if_true];exact hR
      | done m2 f2 o2 =>
        rw [hr] at hR;obtain ⟨r1, r2, r3, r4, r5, r6, r7⟩ := hR;obtain ⟨j1, j2, j3, j4⟩ := hRO rfl g1 g3 hr
        simp only
        unfold qTail;rw [r1];simp only [Bool.false_eq_true, if_false];obtain ⟨e1, e2⟩ := end_eq_ j3 r2 r3
        have hqe : (qEnd (qRuns (qCall P fuel d) f1.runs.length (qBody fuel (qCall P fuel d) (P.getD c.f.toNat []) (fuel - m.made).toNat.succ (qEnter q c) { c with kind := 1 } 0).1 (qBody fuel (qCall P fuel d) (P.getD c.f.toNat []) (fuel - m.made).toNat.succ (qEnter q c) { c with kind := 1 } 0).2).1 (qRuns (qCall P fuel d) f1.runs.length (qBody fuel (qCall P fuel d) (P.getD c.f.toNat []) (fuel - m.made).toNat.succ (qEnter q c) { c with kind := 1 } 0).1 (qBody fuel (qCall P fuel d) (P.getD c.f.toNat []) (fuel - m.made).toNat.succ (qEnter q c) { c with kind := 1 } 0).2).2).spent = false := by
          unfold qEnd
          (repeat' split) <;> exact r1
        have v1 : Vals m m1 := fun i a b => b5 i a b;have hpl : m.panics.length ≤ m1.panics.length := g2.pans;refine ⟨hqe, ⟨e1.made, e1.shared, e1.deep, e1.trace, e1.seen⟩, ⟨r3.fn, r3.a0, r3.a1, r3.a2, r3.a3, r3.runs, r3.en, fun e => (r3.val e).trans (e2 _ (j3.pan e).1 (j3.pan e).2).symm, r3.lvg, r3.dfr, r3.cnt, r3.inv⟩, fun h => ?_, fun h => ?_, fun i a b => ?_⟩
        · rw [r6]
          exact r4.out (by rw [r3.dfr, r7, hdfr1]; exact h)
        · rw [r6]
          exact b7 (by simpa [MS.frame] using h)
        · exact ((v1.trans hpl r5).trans (Nat.le_trans hpl j2.pans) e2) i a b
end
end SX
end Go.Proofs.Ytcbijhgepdedpaa
