/- What the claim FnExactIsTrace rests on, part 8 of 19; the last part proves it: for every input the law answers true, and its arguments read behind the call as before it. No condition. -/
import Derived.Lib.OwnBridge
import Derived.Test.YtcbijhgepdedpaaQIsTrace3
import Derived.Test.YtcbijhgepdedpaaQIsTrace6
namespace Go.Proofs.Ytcbijhgepdedpaa
namespace SX
open Go.RowKit Go.Proofs.YtcbijhgepdedpaaW.PrintWords
def jK (l : List Asn) : Asn where
 says w F := ∃ G : Nat → Nat → Prop, (∀ k, F k ↔ ∃ i, i < l.length ∧ G i k) ∧ (∀ i j k, i < l.length → j < l.length → G i k → G j k → i = j) ∧ ∀ (i : Nat) (R : Asn), l[i]? = some R → R.says w (G i)
 lt w F h k hk := by
  obtain ⟨G, h1, _, h3⟩ := h
  obtain ⟨i, hi, hg⟩ := (h1 k).1 hk
  exact (l[i]).lt w (G i) (h3 i _ (List.getElem?_eq_getElem hi)) k hg
 loc w w' F hz h hk := by
  obtain ⟨G, h1, h2, h3⟩ := h
  refine ⟨G, h1, h2, fun i R hi => R.loc w w' (G i) hz (h3 i R hi) fun b hb => hk b ((h1 b).2 ⟨i, (List.getElem?_eq_some_iff.1 hi).1, hb⟩)⟩
section
variable {w0 w : World} {Rs : List Asn}
theorem Sat.split {l : List Asn} (h : Sat w0 w (jK l :: Rs)) : Sat w0 w (l ++ Rs) := by
  obtain ⟨hb, F, h1, h2, h3⟩ := h
  obtain ⟨G, g1, g2, g3⟩ := h1 0 _ rfl
  refine ⟨hb, fun j b => if j < l.length then G j b else F (j - l.length + 1) b, fun j S hj => ?_, fun j j' b hj hj' => ?_, fun j b hj => ?_⟩
  · by_cases hl : j < l.length
    · rw [List.getElem?_append_left hl] at hj
      simp only [hl, if_true];exact g3 j S hj
    · rw [List.getElem?_append_right (by omega)] at hj
      simp only [hl, if_false];exact h1 (j - l.length + 1) S (by simpa using hj)
  · dsimp only at hj hj'
    split at hj <;> split at hj'
    · rename_i a b; exact g2 j j' _ a b hj hj'
    · rename_i a _; have := h2 0 _ _ ((g1 _).2 ⟨j, a, hj⟩) hj'; omega
    · rename_i _ a; have := h2 0 _ _ ((g1 _).2 ⟨j', a, hj'⟩) hj; omega
    · have := h2 _ _ _ hj hj'; omega
  · dsimp only at hj
    split at hj
    · rename_i a; exact h3 0 b ((g1 b).2 ⟨j, a, hj⟩)
    · exact h3 _ b hj
theorem Sat.merge {l : List Asn} (h : Sat w0 w (l ++ Rs)) : Sat w0 w (jK l :: Rs) := by
  obtain ⟨hb, F, h1, h2, h3⟩ := h
  refine ⟨hb, fun j b => match j with | 0 => ∃ i, i < l.length ∧ F i b | j + 1 => F (j + l.length) b, fun j S hj => ?_, fun j j' b hj hj' => ?_, fun j b hj => ?_⟩
  · cases j with
    | zero =>
      simp at hj
      subst hj;refine ⟨F, fun _ => Iff.rfl, fun i j k _ _ hi hj => h2 i j k hi hj, fun i R hi => h1 i R ?_⟩;rw [List.getElem?_append_left (List.getElem?_eq_some_iff.1 hi).1];exact hi
    | succ j =>
      refine h1 (j + l.length) S ?_;rw [List.getElem?_append_right (by omega)]
      simpa using hj
  · cases j <;> cases j'
    · rfl
    · obtain ⟨i, hi, hf⟩ := hj
      have := h2 _ _ b hf hj'; omega
    · obtain ⟨i, hi, hf⟩ := hj'
      have := h2 _ _ b hj hf; omega
    · have := h2 _ _ b hj hj'; omega
  · cases j with
    | zero => obtain ⟨i, hi, hf⟩ := hj; exact h3 i b hf
    | succ j => exact h3 _ b hj
theorem Sat.gainLast {R : Asn} {l : List Asn} (h : Sat w0 w (R :: jK l :: Rs)) : Sat w0 w (jK (l ++ [R]) :: Rs) := by
 have h1 : Sat w0 w ([jK l, R] ++ Rs) := h.pickR (l := [R, jK l]) [1, 0] (by decide) _ rfl
 have h2 : Sat w0 w (l ++ R :: Rs) := Sat.split h1
 have h3 : Sat w0 w ((l ++ [R]) ++ Rs) := by simpa using h2
 exact h3.merge
end
structure Sl where
 A : Option Addr
 n : Nat
 c : Nat
abbrev Sl.v (s : Sl) : Value := .slice s.A s.n s.c
def bk (s : Sl) : Nat := (s.A.getD default).block
def of_ (s : Sl) : Nat := (s.A.getD default).off
structure RdI (w : World) (s : Sl) (l : List Int) : Prop where
 len : s.n = l.length
 le : l.length ≤ s.c
 rd : Kd.C (Kd.int .i64) w s.A l.length l
theorem spot_of_cell {w : World} {ad : Addr} {v : Value} (h : w.cell? (ad.add 0) = some v) : ad.spot = none := by
  simp only [Addr.add, if_true] at h
  unfold World.cell? at h
  split at h
  · split at h
    · cases h
    · rename_i hs; simpa using hs
  · cases h
section
variable {w0 w w' : World} {Rs : List Asn} {s : Sl} {l : List Int}
theorem RdI.at_ (h : RdI w s l) {j : Nat} (hj : j < l.length) : s.A = some ⟨bk s, of_ s, none⟩ ∧ w.cell? ⟨bk s, of_ s + j, none⟩ = some (.int .i64 (l.getD j 0)) := by
 obtain ⟨_, _, h3⟩ := h.rd
 have hp : 0 < l.length := by omega
 obtain ⟨ad, hA, hc⟩ := h3 hp
 have hcell : ∀ j, j < l.length → w.cell? (ad.add j) = some (.int .i64 (l.getD j 0)) := fun j hj => by
  obtain ⟨c, _, hk, hu⟩ := hc j _ (List.getElem?_eq_getElem hj)
  have e : c = [.int .i64 l[j]] := hk
  subst e
  have := hu 0 _ rfl
  simpa [Kd.int, Kd.scalar, List.getD, hj] using this
 have hspot := spot_of_cell (hcell 0 hp)
 obtain ⟨b, off, sp⟩ := ad
 subst hspot
 have := hcell j hj
 rw [add0] at this
 refine ⟨by simp [bk, of_, hA], ?_⟩
 simpa [bk, of_, hA] using this
theorem Sat.comp {Ps : List Asn} (h : Sat w0 w Rs) (hp : Sat w w' Ps) : Sat w0 w' (Ps ++ Rs) := by
  obtain ⟨hb, F, h1, h2, h3⟩ := h
  obtain ⟨hb', G, g1, g2, g3⟩ := hp
  have hs0 : w0.heap.size ≤ w.heap.size := hb.size
  refine ⟨hb.trans (hb'.mono hs0), fun j b => if j < Ps.length then G j b else F (j - Ps.length) b, fun j S hj => ?_, fun j j' b hj hj' => ?_, fun j b hj => ?_⟩
  · by_cases hl : j < Ps.length
    · rw [List.getElem?_append_left hl] at hj
      simp only [hl, if_true];exact g1 j S hj
    · rw [List.getElem?_append_right (by omega)] at hj
      simp only [hl, if_false];exact S.loc w w' _ hb'.size (h1 _ S hj) fun b hF => hb'.block b (h3 _ b hF).2
  · dsimp only at hj hj'
    split at hj <;> split at hj'
    · exact g2 _ _ b hj hj'
    · have := (g3 _ b hj).1; have := (h3 _ b hj').2; omega
    · have := (g3 _ b hj').1; have := (h3 _ b hj).2; omega
    · have := h2 _ _ b hj hj'; omega
  · dsimp only at hj
    split at hj
    · have := g3 _ b hj; omega
    · have h4 := h3 _ b hj; have h5 : w.heap.size ≤ w'.heap.size := hb'.size; omega
end
def Ret (R : Value → World → Prop) : Ending → World → Prop
 | .returned v, w => R v w
 | _, _ => False
section
variable {P : Program} {R : Array Oper} {Q : Exit → Act → World → Prop} {n : Nat} {e : Env} {a : Act} {w w0 : World} {Rs : List Asn}
theorem zX {S : World → Prop} {i d : Nat} {t el : TypeId} {x ix : Operand} {ty : TypeId} {s : Sl} {sz j : Nat} {k : IntKind} (h : Has n e a) (ho : AtW R i (.indexAddr t x ix) (some d) ty a)
  (hx : ev e x = some (.slice s.A s.n s.c)) (hi : ev e ix = some (.int k (j : Int))) (ht : P.underlying t = some (.slice el)) (hs : (P.info? el).map (·.size) = some sz) (hA : s.A = some ⟨bk s, of_ s, none⟩) (h1 : j < s.n) :
  Val P R i a S d (.pointer (some ⟨bk s, of_ s + j * sz, none⟩)) := by
 have := v_index (S := S) (q := (j : Int)) (off := of_ s) (b := bk s) (len := s.n) (cap := s.c) h ho (by rw [hx, hA]) hi ht hs (by omega) (by omega)
 simpa using this
theorem yZ {S : World → Prop} {i d : Nat} {t el : TypeId} {x ix : Operand} {ty : TypeId} {s : Sl} {sz j : Nat} {k : IntKind} {q : Int} (h : Has n e a) (ho : AtW R i (.indexAddr t x ix) (some d) ty a)
  (hx : ev e x = some (.slice s.A s.n s.c)) (hi : ev e ix = some (.int k q)) (ht : P.underlying t = some (.slice el)) (hs : (P.info? el).map (·.size) = some sz) (hA : s.A = some ⟨bk s, of_ s, none⟩) (hq : q = (j : Int)) (h1 : j < s.n) :
  Val P R i a S d (.pointer (some ⟨bk s, of_ s + j * sz, none⟩)) := zX h ho hx (hq ▸ hi) ht hs hA h1
theorem v_loadL {S : World → Prop} {i d : Nat} {t : TypeId} {x : Operand} {ty : TypeId} {p : Addr} {v : Value} (h : Has n e a) (ho : AtW R i (.load t x) (some d) ty a) (hx : ev e x = some (.pointer (some p)))
  (hb : ∀ w, S w → (loadVar t p).run P w = .ok v w) : Val P R i a S d v :=
 Val.of_run ho fun o w h1 h2 hS => by
  rw [exec_eq h h1 h2 (by simp [covers, Op.operands, hx, notSelect])]
  have hr := hb w hS
  simp [execOp, opr, Instr.loadAt, Instr.sureAddr, evD, hx, hr]
theorem o_ret {i d f : Nat} {xs : Array Operand} {ts : Array TypeId} {ty : TypeId} {vs : List Value} {fn : Func} {Post : Value → World → Prop} {K : Act → World → Prop} (h : Has n e a) (hd : d < n)
  (ho : AtW R i (.call { callee := .value (.func f), args := xs, argTypes := ts }) (some d) ty a) (hx : xs.toList.mapM (ev e) = some vs) (hf : P.funcs[f]? = some fn) (hb : (fn.body.isNone || fn.name == "runtime.NumGoroutine") = false)
  (hcall : Calls P f vs.toArray w (Ret Post)) (kr : ∀ v w' a', Post v w' → Has n ((d, v) :: e) a' → K a' w') : wpOp P R Q i K a w :=
 o_call h hd ho hx hf hb hcall (fun v w' a' hp ha => kr v w' a' hp ha) (fun _ _ hp => hp.elim) (fun _ hp => hp)
end
end SX
namespace SX
open Go.RowKit
abbrev ptr (b o : Nat) : Value := .pointer (some ⟨b, o, none⟩)
abbrev iv (x : Int) : Value := .int .i64 x
def wantB (R : Array Oper) (o : Oper) (e : Env) : Option Bool := match o.guard with
  | none => some true
  | some (g, b) => match (R[g]?).bind (·.dst) with
    | none => none
    | some gd => match lk e gd with
      | none => none
      | some v => match v with
        | .bool c => some (c == b)
        | _ => some false
section
variable {P : Program} {R : Array Oper} {Q : Exit → Act → World → Prop} {n : Nat} {e : Env} {a : Act} {w w0 : World} {Rs : List Asn}
theorem wantB_eq {o : Oper} {t : Bool} (h : Has n e a) (hw : wantB R o e = some t) : Region.wanted o (yielded R a.tmps) = t := by
 unfold wantB at hw
 unfold Region.wanted
 cases hg : o.guard with
 | none => rw [hg] at hw; exact Option.some.inj hw
 | some gb =>
  obtain ⟨g, b⟩ := gb
  rw [hg] at hw
  simp only at hw ⊢
  cases hd : (R[g]?).bind (·.dst) with
  | none => rw [hd] at hw; cases hw
  | some gd =>
   rw [hd] at hw;simp only at hw;cases hv : lk e gd with
   | none => rw [hv] at hw; cases hw
   | some v =>
    rw [hv] at hw;have h3 := h.held _ _ hv
    have hy : yielded R a.tmps g = match v with | .bool b => some b | _ => none := by
     unfold yielded;rw [hd];simp only [Option.bind_some, h3];cases v <;> rfl
    rw [hy];cases v with
    | bool c => exact (show (some c == some b) = t from (by cases c <;> cases b <;> rfl : (some c == some b) = (c == b)).trans (Option.some.inj hw))
    | _ => exact Option.some.inj hw
def out1 (P : Program) (R : Array Oper) (i : Nat) (e : Env) (w : World) : Option (Nat × Result Next) := match R[i]? with
  | none => none
  | some o => match o.dst with
    | none => none
    | some d => match wantB R o e with
      | none => none
      | some false => some (d, .ok (.value undef) w)
      | some true => if (covers e o.op && notSelect o.op) = true then some (d, (execOp (evD e) (opr o.op o.type)).run P w) else none
def outs (P : Program) (R : Array Oper) : List (Nat × Nat × Value) → Env → World → List (Option (Nat × Result Next))
 | [], _, _ => []
 | x :: l, e, w => out1 P R x.1 e w :: outs P R l ((x.2.1, x.2.2) :: e) w
def ins (w : World) : List (Nat × Nat × Value) → List (Option (Nat × Result Next))
 | [] => []
 | x :: l => some (x.2.1, .ok (.value x.2.2) w) :: ins w l
def ext : List (Nat × Nat × Value) → Env → Env
 | [], e => e
 | x :: l, e => ext l ((x.2.1, x.2.2) :: e)
theorem val_of_out {i d : Nat} {v : Value} {S : World → Prop} (h : Has n e a) (ho : ∀ w, out1 P R i e w = some (d, .ok (.value v) w)) : Val P R i a S d v := by
  have h0 := ho default
  unfold out1 at h0
  cases hR : R[i]? with
  | none => rw [hR] at h0; cases h0
  | some o =>
    rw [hR] at h0;simp only at h0;cases hd : o.dst with
    | none => rw [hd] at h0; cases h0
    | some d' =>
      rw [hd] at h0;simp only at h0;cases hw : wantB R o e with
      | none => rw [hw] at h0; cases h0
      | some t =>
        rw [hw] at h0;have hwt := wantB_eq (R := R) h hw;cases t with
        | false =>
          simp only [Option.some.injEq, Prod.mk.injEq, Result.ok.injEq, Next.value.injEq] at h0;obtain ⟨rfl, h1, _⟩ := h0;exact ⟨⟨o, hR, hd, .inr ⟨hwt, h1.symm⟩⟩⟩
        | true =>
          by_cases hc : (covers e o.op && notSelect o.op) = true
          · simp only [hc, if_true, Option.some.injEq, Prod.mk.injEq] at h0
            obtain ⟨rfl, _⟩ := h0;refine ⟨⟨o, hR, hd, .inl ⟨hwt, fun w _ => ?_⟩⟩⟩;rw [exec_eq h rfl rfl hc];have h1 := ho w;unfold out1 at h1;simp only [hR, hd, hw, hc, if_true, Option.some.injEq, Prod.mk.injEq, true_and] at h1;exact h1
          · simp only [hc] at h0
            cases h0
theorem p_run0 (l : List (Nat × Nat × Value)) {L : List Nat} (h : Has n e a) (hd : (l.all fun x => Nat.blt x.2.1 n) = true) (hL : L.take l.length = l.map (·.1)) (hk : ∀ w, outs P R l e w = ins w l)
  (k : ∀ a', Has n (ext l e) a' → wpOps P R Q (L.drop l.length) a' w) : wpOps P R Q L a w := by
 induction l generalizing e a L with
 | nil => exact k a h
 | cons x l ih =>
  cases L with
  | nil => simp at hL
  | cons y L =>
   simp only [List.length_cons, List.take_succ_cons, List.map_cons, List.cons.injEq] at hL;obtain ⟨rfl, hL⟩ := hL;simp only [List.all_cons, Bool.and_eq_true] at hd;have h1 : ∀ w, out1 P R x.1 e w = some (x.2.1, .ok (.value x.2.2) w) := fun w => by have := hk w; simp only [outs, ins, List.cons.injEq] at this; exact this.1
   have h2 : ∀ w, outs P R l ((x.2.1, x.2.2) :: e) w = ins w l := fun w => by have := hk w; simp only [outs, ins, List.cons.injEq] at this; exact this.2
   exact p_val h (by simpa [Nat.blt_eq] using hd.1) (val_of_out h h1) fun a' h' => ih h' hd.2 hL h2 k
theorem jX (l : List (Nat × Nat × Value)) {L : List Nat} (h : Has n e a) (k : ∀ a', Has n (ext l e) a' → wpOps P R Q (L.drop l.length) a' w)
  (hd : (l.all fun x => Nat.blt x.2.1 n) = true := by rfl) (hL : L.take l.length = l.map (·.1) := by rfl) (hk : ∀ w, outs P R l e w = ins w l := by intro _; kernel_rfl) : wpOps P R Q L a w := p_run0 l h hd hL hk k
def dset : List (Nat × Nat × Value) → Array Bool → Array Bool
 | [], l => l
 | x :: r, l => dset r (l.setIfInBounds x.1 true)
def dchk (R : Array Oper) (m : Nat) : List (Nat × Nat × Value) → Array Bool → Bool
 | [], _ => true
 | x :: r, l => (Region.free .any R l x.1 && (Region.ready .any R l).contains x.1 && !(Nat.beq x.1 m)) && dchk R m r (l.setIfInBounds x.1 true)
theorem d_run0 (r : List (Nat × Nat × Value)) {m : Nat} {F : World → Prop} {k : Nat} {l : Array Bool} (h : Has n e a) (hF : l.getD m false = true ∨ F w) (hQ : PutOK Q) (hc : (Region.noSelect R && (r.all fun x => Nat.blt x.2.1 n) && dchk R m r l) = true)
    (hk : ∀ w, outs P R r e w = ins w r) (kk : ∀ a', Has n (ext r e) a' → wpD P R Q m F k (dset r l) a' w) : wpD P R Q m F (k + r.length) l a w := by
  simp only [Bool.and_eq_true] at hc
  obtain ⟨⟨hs, hd⟩, hc⟩ := hc
  induction r generalizing e a l k with
  | nil => exact kk a h
  | cons x r ih =>
    simp only [dchk, Bool.and_eq_true, Bool.not_eq_true'] at hc;obtain ⟨⟨⟨c1, c2⟩, c3⟩, c4⟩ := hc;simp only [List.all_cons, Bool.and_eq_true] at hd;have h1 : ∀ w, out1 P R x.1 e w = some (x.2.1, .ok (.value x.2.2) w) := fun w => by have := hk w; simp only [outs, ins, List.cons.injEq] at this; exact this.1
    have h2 : ∀ w, outs P R r ((x.2.1, x.2.2) :: e) w = ins w r := fun w => by have := hk w; simp only [outs, ins, List.cons.injEq] at this; exact this.2
    refine d_pure (k := k + r.length) h (by simpa [Nat.blt_eq] using hd.1) (val_of_out h h1) hF hs (by simp only [c1, c2, c3, Bool.and_self, Bool.not_false]) hQ fun a' h' => ih h' ?_ h2 kk c4 hd.2
    rcases hF with hF | hF
    · have hne : x.1 ≠ m := fun e => by rw [e] at c3; simp at c3
      exact .inl (by rw [getD_set_ne false hne]; exact hF)
    · exact .inr hF
theorem jU (r : List (Nat × Nat × Value)) {m : Nat} {F : World → Prop} {k K : Nat} {l : Array Bool} (h : Has n e a) (hF : l.getD m false = true ∨ F w) (kk : ∀ a', Has n (ext r e) a' → wpD P R Q m F k (dset r l) a' w) (hc : (Region.noSelect R && (r.all fun x => Nat.blt x.2.1 n) && dchk R m r l) = true := by kernel_rfl)
  (hk : ∀ w, outs P R r e w = ins w r := by intro _; kernel_rfl) (hK : K = k + r.length := by rfl)
  (hQ : PutOK Q := by repeat first | with_reducible exact yX | with_reducible apply yQ | with_reducible apply yV | with_reducible exact pk_bodyM | with_reducible exact pk_rnd) : wpD P R Q m F K l a w := by subst hK; exact d_run0 r h hF hQ hc hk kk
theorem Has.as (h : Has n e a) (e' : Env) (he : keep e (e'.map (·.1)) = e') : Has n e' a := h.keeps _ e' he
theorem Has.turn {v : Value} (h : Has n e a) (t : Nat) (v' : Value) (hl : lk e t = some v) (hv : v = v') : Has n ((t, v') :: e) a := by
  subst hv
  refine ⟨h.size, h.defers, fun u x hu => ?_⟩
  rw [lk_cons] at hu
  by_cases ht : t = u
  · subst ht
    simp at hu
    subst hu;exact h.held _ _ hl
  · rw [if_neg ht] at hu
    exact h.held _ _ hu
theorem jQ {id : Nat} (L : List Nat) (h : wpOps P R Q L a w) (hL : List.range R.size = L := by kernel_rfl) : (Code.region id R false).wp P Q a w := by subst hL; exact wp_region h
theorem xX {id : Nat} (m N : Nat) (hS : Sat w0 w Rs) (h : ∀ w', Sat w0 w' Rs → wpD P R Q m (fun w' => Sat w0 w' Rs) N (Array.replicate N false) a w') (hm : (P.follows .mixedOrders && Nat.beq R.size N) = true := by kernel_rfl) : (Code.region id R true).wp P Q a w := by
 rw [Bool.and_eq_true] at hm
 have h1 := h _ hS.drew
 rw [← Nat.eq_of_beq_eq_true hm.2] at h1
 exact d_begin hm.1 h1
theorem Sat.rest (l : List Asn) (h : Sat w0 w (l ++ Rs)) : Sat w0 w Rs := by
 have h2 := h.pickR (l := l) [] List.nodup_nil [] rfl
 exact h2
def pickL (n : Nat) (is : List Nat) (L : List Asn) : Option (List Asn) := (is.mapM fun i => (L.take n)[i]?).map (· ++ L.drop n)
theorem Sat.pickN {L L' : List Asn} (h : Sat w0 w L) (n : Nat) (is : List Nat) (hn : is.Nodup := by decide) (he : pickL n is L = some L' := by exact rfl) : Sat w0 w L' := by
 obtain ⟨l', h1, rfl⟩ := Option.map_eq_some_iff.1 he
 rw [← List.take_append_drop n L] at h
 exact h.pickR is hn l' h1
theorem yH {id : Nat} {Rp : List Asn} (m N : Nat) (_hP : Sat w0 w Rp) (hS : Sat w0 w Rs) (h : ∀ w', Sat w0 w' Rs → wpD P R Q m (fun w' => Sat w0 w' Rp) N (Array.replicate N false) a w') (hm : (P.follows .mixedOrders && Nat.beq R.size N) = true := by kernel_rfl) : (Code.region id R true).wp P Q a w := by
 rw [Bool.and_eq_true] at hm
 have h1 := h _ hS.drew
 rw [← Nat.eq_of_beq_eq_true hm.2] at h1
 exact d_begin hm.1 h1
def ldk (P : Program) (R : Array Oper) (n i : Nat) (e : Env) : Option (Nat × Nat × Nat) := match R[i]? with
  | none => none
  | some o => match wantB R o e, o.dst, o.op with
    | some true, some d, .load t x => if (isCell P t && Nat.blt d n) = true then (match ev e x with | some (.pointer (some ⟨b, j, none⟩)) => some (d, b, j) | _ => none) else none
    | _, _, _ => none
theorem val_of_ld {i d b j : Nat} {cs : List Value} {T : TypeId} {v : Value} {S : World → Prop} (h : Has n e a) (hk : ldk P R n i e = some (d, b, j)) (hb : ∀ w, S w → w.heap[b]? = some (.cells cs.toArray T (0, 0))) (hj : cs[j]? = some v) : d < n ∧ Val P R i a S d v := by
  unfold ldk at hk
  cases hR : R[i]? with
  | none => rw [hR] at hk; cases hk
  | some o =>
    rw [hR] at hk;simp only at hk
    split at hk
    · rename_i d' t x hw hd hop
      split at hk
      · rename_i hc
        simp only [Bool.and_eq_true] at hc
        split at hk
        · rename_i b' j' hx
          simp only [Option.some.injEq, Prod.mk.injEq] at hk;obtain ⟨rfl, rfl, rfl⟩ := hk;exact ⟨by simpa [Nat.blt_eq] using hc.2, v_load h ⟨o, hR, hop, hd, rfl, wantB_eq h hw⟩ hx hc.1 hb hj⟩
        · cases hk
      · cases hk
    · cases hk
theorem qU {i d b j : Nat} {cs : List Value} {T : TypeId} {v : Value} {rest : List Nat} (h : Has n e a) (hb : w.heap[b]? = some (.cells cs.toArray T (0, 0))) (hj : cs[j]? = some v)
  (k : ∀ a', Has n ((d, v) :: e) a' → wpOps P R Q rest a' w) (hk : ldk P R n i e = some (d, b, j) := by kernel_rfl) : wpOps P R Q (i :: rest) a w :=
 have hv := val_of_ld (S := fun w' => w' = w) h hk (fun w' hw => by rw [hw]; exact hb) hj
 p_val h hv.1 hv.2 k
theorem xH {m : Nat} {F : World → Prop} (i : Nat) {d b j : Nat} {cs : List Value} {T : TypeId} {v : Value} {k : Nat} {l : Array Bool} (h : Has n e a) (hF : F w)
  (hb : ∀ w', F w' → w'.heap[b]? = some (.cells cs.toArray T (0, 0))) (hj : cs[j]? = some v)
  (kk : ∀ a', Has n ((d, v) :: e) a' → wpD P R Q m F k (l.setIfInBounds i true) a' w) (hk : ldk P R n i e = some (d, b, j) := by kernel_rfl)
  (hc : (Region.noSelect R && (Region.free .any R l i && (Region.ready .any R l).contains i && waits R m i && !(Nat.beq i m) && !(l.getD m false))) = true := by kernel_rfl)
  (hQ : PutOK Q := by repeat first | with_reducible exact yX | with_reducible apply yQ | with_reducible apply yV | with_reducible exact pk_bodyM | with_reducible exact pk_rnd) : wpD P R Q m F (k + 1) l a w := by
 have hv := val_of_ld (S := F) h hk hb hj
 rw [Bool.and_eq_true] at hc
 exact d_val h hv.1 hv.2 hF hc.1 hc.2 hQ kk
def stk (P : Program) (R : Array Oper) (i : Nat) (e : Env) : Option (Nat × Nat × Value) := match R[i]? with
  | none => none
  | some o => match wantB R o e, o.dst, o.op with
    | some true, none, .store t x y => match (P.info? t).map (·.size), ev e x, ev e y with
      | some 1, some (.pointer (some ⟨b, j, none⟩)), some v => if v.oneCell' = true then some (b, j, v) else none
      | _, _, _ => none
    | _, _, _ => none
theorem zQ {i : Nat} (b j : Nat) (v : Value) {cs : List Value} {T : TypeId} {K : Act → World → Prop} (p : Nat) (h : Has n e a) (hS : Sat w0 w Rs) (hp : Rs[p]? = some (SX.blk b cs T)) (hj : Nat.blt j cs.length = true)
    (k : ∀ w' a', Sat w0 w' (Rs.set p (SX.blk b (cs.set j v) T)) → Has n e a' → K a' w') (hk : stk P R i e = some (b, j, v) := by kernel_rfl) : wpOp P R Q i K a w := by
  unfold stk at hk
  cases hR : R[i]? with
  | none => rw [hR] at hk; cases hk
  | some o =>
    rw [hR] at hk;simp only at hk
    split at hk
    · rename_i t x y hw hd hop
      split at hk
      · rename_i b' j' v' hs hx hy
        split at hk
        · rename_i h1
          simp only [Option.some.injEq, Prod.mk.injEq] at hk;obtain ⟨rfl, rfl, rfl⟩ := hk;exact o_store p h ⟨o, hR, hop, hd, rfl, wantB_eq h hw⟩ hx hy h1 hs hS hp (by simpa [Nat.blt_eq] using hj) rfl k
        · cases hk
      · cases hk
    · cases hk
theorem zZ {i d : Nat} {s x : Operand} {t el ty : TypeId} {v : Value} {sz bytes m c b : Nat} {xs news xs' : List Value} {z : Value} {T2 : TypeId} {K : Act → World → Prop} (p q : Nat) (h : Has n e a) (hd : d < n)
  (ho : AtW R i (.call { callee := .builtin .append, args := #[s, x], argTypes := #[t, t] }) (some d) ty a) (hs : ev e s = some v) (hx : ev e x = some (.slice (some ⟨b, 0, none⟩) m c))
  (ht : P.underlying t = some (.slice el)) (hinfo : (P.info? el).map (fun i => (i.zero, i.size, i.bytes)) = some (some z, sz, bytes)) (hz : z.cells.size = sz) (hsz : 0 < sz)
  (hS : Sat w0 w Rs) (hp : Rs[p]? = some (SX.row v el sz xs)) (hq : Rs[q]? = some (SX.blk b news T2)) (hn : news.length = m * sz) (h1 : news.all Value.oneCell' = true) (hlen : xs.length + news.length ≤ 1000000000) (hby : bytes ≤ 100000 * sz) (hxs : xs ++ news = xs')
  (k : ∀ (z : Sl) w' a', Sat w0 w' (Rs.set p (SX.row (.slice z.A z.n z.c) el sz xs')) → (z.n * sz = xs'.length) → Has n ((d, .slice z.A z.n z.c) :: e) a' → K a' w') : wpOp P R Q i K a w := by
 subst hxs
 exact o_append p q h hd ho hs hx ht hinfo hz hsz hS hp hq hn h1 hlen hby fun A nn cc w' a' hS' hnn ha' => k ⟨A, nn, cc⟩ w' a' hS' (by rw [List.length_append]; exact hnn) ha'
theorem zY {S : World → Prop} {i d : Nat} {t : TypeId} {x : Operand} {ty : TypeId} {b : Nat} {cs : List Value} {T : TypeId} (h : Has n e a) (ho : AtW R i (.load t x) (some d) ty a) (hx : ev e x = some (.pointer (some ⟨b, 0, none⟩)))
  (ht : aggSize P t = some cs.length) (hb : ∀ w, S w → w.heap[b]? = some (.cells cs.toArray T (0, 0))) : Val P R i a S d (.agg cs.toArray) := v_loadAgg h ho hx ht hb (by rw [List.drop_zero, List.take_length])
theorem xV {i : Nat} {op : Op} {d : Option Nat} {ty : TypeId} (h : (R[i]?).map spec = some (op, d, ty, none) := by kernel_rfl) : AtW R i op d ty a := At.here h
theorem qV {b : Bool} (h : b = false) : (!b) = true := by rw [h]; rfl
theorem qW {b : Bool} (h : b = true) : (!b) = false := by rw [h]; rfl
theorem out1_inv {i d : Nat} {r : Result Next} (h : Has n e a) (ho : out1 P R i e w = some (d, r)) (hne : r ≠ .ok (.value undef) w) : ∃ op ty, AtW R i op (some d) ty a ∧ (covers e op && notSelect op) = true ∧ (execOp (evD e) (opr op ty)).run P w = r := by
  unfold out1 at ho
  cases hR : R[i]? with
  | none => rw [hR] at ho; cases ho
  | some o =>
    rw [hR] at ho;simp only at ho;cases hd : o.dst with
    | none => rw [hd] at ho; cases ho
    | some d' =>
      rw [hd] at ho;simp only at ho;cases hw : wantB R o e with
      | none => rw [hw] at ho; cases ho
      | some t =>
        rw [hw] at ho;have hwt := wantB_eq (R := R) h hw;cases t with
        | false =>
          simp only [Option.some.injEq, Prod.mk.injEq] at ho;exact absurd ho.2.symm hne
        | true =>
          by_cases hc : (covers e o.op && notSelect o.op) = true
          · simp only [hc, if_true, Option.some.injEq, Prod.mk.injEq] at ho
            obtain ⟨rfl, h1⟩ := ho;exact ⟨o.op, o.type, ⟨o, hR, rfl, hd, rfl, hwt⟩, hc, h1⟩
          · simp only [hc] at ho
            cases ho
theorem qG {i : Nat} (d : Nat) (cs : List Value) (T : TypeId) (f : Nat → Value) {K : Act → World → Prop} (h : Has n e a) (hS : Sat w0 w Rs) (k : ∀ b w' a', w0.heap.size ≤ b → Sat w0 w' (SX.blk b cs T :: Rs) → Has n ((d, f b) :: e) a' → K a' w')
  (hd : Nat.blt d n = true := by rfl) (hk : ∀ w, out1 P R i e w = some (d, .ok (.value (f w.heap.size)) (w.alloc (.cells cs.toArray T))) := by intro _; kernel_rfl) : wpOp P R Q i K a w := by
 obtain ⟨op, ty, ho, hc, hr⟩ := out1_inv h (hk w) (fun he => by
  injection he with _ h2
  have h3 : (w.alloc (.cells cs.toArray T)).heap.size = w.heap.size + 1 := by simp
  rw [h2] at h3
  omega)
 exact o_val h (by simpa [Nat.blt_eq] using hd) ho hc hr fun a' ha => k w.heap.size _ a' hS.below.size (hS.alloc cs T) ha
theorem qX {rest : List Nat} {i : Nat} (d : Nat) (x : Int) (h : Has n e a) (k : ∀ a', Has n ((d, iv x) :: e) a' → wpOps P R Q rest a' w) (hd : Nat.blt d n = true := by rfl)
  (hk : ∀ w, out1 P R i e w = some (d, .ok (.value (.int .i64 (IntKind.i64.wrap x))) w) := by intro _; kernel_rfl) (hx : -9223372036854775808 ≤ x ∧ x ≤ 9223372036854775807 := by omega) : wpOps P R Q (i :: rest) a w :=
 p_val h (by simpa [Nat.blt_eq] using hd) (Val.as (val_of_out h hk) (by rw [wrap_i64 hx.1 hx.2])) k
theorem qH {m : Nat} {F : World → Prop} (i : Nat) {d : Nat} (v : Value) {k : Nat} {l : Array Bool} (h : Has n e a) (y : Val P R i a (fun _ => True) d v) (hF : l.getD m false = true ∨ F w)
  (kk : ∀ a', Has n ((d, v) :: e) a' → wpD P R Q m F k (l.setIfInBounds i true) a' w) (hd : Nat.blt d n = true := by rfl) (hc : (Region.noSelect R && (Region.free .any R l i && (Region.ready .any R l).contains i && !(Nat.beq i m))) = true := by kernel_rfl)
  (hQ : PutOK Q := by repeat first | with_reducible exact yX | with_reducible apply yQ | with_reducible apply yV | with_reducible exact pk_bodyM | with_reducible exact pk_rnd) : wpD P R Q m F (k + 1) l a w := by
 rw [Bool.and_eq_true] at hc
 exact d_pure h (by simpa [Nat.blt_eq] using hd) y hF hc.1 hc.2 hQ kk
theorem yW {m : Nat} {F : World → Prop} (i d : Nat) (x : Int) {k : Nat} {l : Array Bool} (h : Has n e a) (hF : l.getD m false = true ∨ F w)
  (kk : ∀ a', Has n ((d, iv x) :: e) a' → wpD P R Q m F k (l.setIfInBounds i true) a' w) (hd : Nat.blt d n = true := by rfl) (hc : (Region.noSelect R && (Region.free .any R l i && (Region.ready .any R l).contains i && !(Nat.beq i m))) = true := by kernel_rfl)
  (hk : ∀ w, out1 P R i e w = some (d, .ok (.value (.int .i64 (IntKind.i64.wrap x))) w) := by intro _; kernel_rfl) (hx : -9223372036854775808 ≤ x ∧ x ≤ 9223372036854775807 := by omega)
  (hQ : PutOK Q := by repeat first | with_reducible exact yX | with_reducible apply yQ | with_reducible apply yV | with_reducible exact pk_bodyM | with_reducible exact pk_rnd) : wpD P R Q m F (k + 1) l a w :=
 qH i (iv x) h (Val.as (val_of_out h hk) (by rw [wrap_i64 hx.1 hx.2])) hF kk hd hc hQ
theorem xK {m : Nat} {F : World → Prop} (i : Nat) {d : Nat} (v : Value) {k : Nat} {l : Array Bool} (h : Has n e a) (y : Val P R i a F d v) (hF : F w)
  (kk : ∀ a', Has n ((d, v) :: e) a' → wpD P R Q m F k (l.setIfInBounds i true) a' w) (hd : Nat.blt d n = true := by rfl) (hc : (Region.noSelect R && (Region.free .any R l i && (Region.ready .any R l).contains i && waits R m i && !(Nat.beq i m) && !(l.getD m false))) = true := by kernel_rfl)
  (hQ : PutOK Q := by repeat first | with_reducible exact yX | with_reducible apply yQ | with_reducible apply yV | with_reducible exact pk_bodyM | with_reducible exact pk_rnd) : wpD P R Q m F (k + 1) l a w := by
 rw [Bool.and_eq_true] at hc
 exact d_val h (by simpa [Nat.blt_eq] using hd) y hF hc.1 hc.2 hQ kk
theorem qY {rest : List Nat} {i d : Nat} (v : Value) (h : Has n e a) (y : Val P R i a (fun w' => w' = w) d v) (k : ∀ a', Has n ((d, v) :: e) a' → wpOps P R Q rest a' w) (hd : Nat.blt d n = true := by rfl) : wpOps P R Q (i :: rest) a w := p_val h (by simpa [Nat.blt_eq] using hd) y k
def opk (R : Array Oper) (n i : Nat) (e : Env) : Option (Nat × Op × TypeId) := match R[i]? with
  | none => none
  | some o => match wantB R o e, o.dst with
    | some true, some d => if Nat.blt d n = true then some (d, o.op, o.type) else none
    | _, _ => none
theorem opk_at {i d : Nat} {op : Op} {ty : TypeId} (h : Has n e a) (hk : opk R n i e = some (d, op, ty)) : d < n ∧ AtW R i op (some d) ty a := by
  unfold opk at hk
  cases hR : R[i]? with
  | none => rw [hR] at hk; cases hk
  | some o =>
    rw [hR] at hk;simp only at hk
    split at hk
    · rename_i d' hw hd
      split at hk
      · rename_i hc
        simp only [Option.some.injEq, Prod.mk.injEq] at hk;obtain ⟨rfl, rfl, rfl⟩ := hk;exact ⟨by simpa [Nat.blt_eq] using hc, o, hR, rfl, hd, rfl, wantB_eq h hw⟩
      · cases hk
    · cases hk
def lwk (P : Program) (R : Array Oper) (n i : Nat) (e : Env) : Option (Nat × Nat × Nat) := match opk R n i e with
  | some (d, .load t x, _) => match ev e x, aggSize P t with
    | some (.pointer (some ⟨b, 0, none⟩)), some s => some (d, b, s)
    | _, _ => none
  | _ => none
theorem val_of_lw {i d b : Nat} {cs : List Value} {T : TypeId} {S : World → Prop} (h : Has n e a) (hk : lwk P R n i e = some (d, b, cs.length)) (hb : ∀ w, S w → w.heap[b]? = some (.cells cs.toArray T (0, 0))) : d < n ∧ Val P R i a S d (.agg cs.toArray) := by
  unfold lwk at hk
  split at hk
  · rename_i d' t x ty ho
    obtain ⟨h1, h2⟩ := opk_at h ho
    split at hk
    · rename_i b' s hx hs
      simp only [Option.some.injEq, Prod.mk.injEq] at hk;obtain ⟨rfl, rfl, rfl⟩ := hk;exact ⟨h1, zY h h2 hx hs hb⟩
    · cases hk
  · cases hk
theorem zK {rest : List Nat} {i b : Nat} (d : Nat) {cs : List Value} {T : TypeId} (h : Has n e a) (hb : w.heap[b]? = some (.cells cs.toArray T (0, 0))) (k : ∀ a', Has n ((d, .agg cs.toArray) :: e) a' → wpOps P R Q rest a' w)
  (hk : lwk P R n i e = some (d, b, cs.length) := by kernel_rfl) : wpOps P R Q (i :: rest) a w :=
 have hv := val_of_lw (S := fun w' => w' = w) h hk (fun w' hw => by rw [hw]; exact hb)
 p_val h hv.1 hv.2 k
theorem zW {m : Nat} {F : World → Prop} (i d : Nat) {b : Nat} {cs : List Value} {T : TypeId} {k : Nat} {l : Array Bool} (h : Has n e a) (hF : F w) (hb : ∀ w', F w' → w'.heap[b]? = some (.cells cs.toArray T (0, 0)))
  (kk : ∀ a', Has n ((d, .agg cs.toArray) :: e) a' → wpD P R Q m F k (l.setIfInBounds i true) a' w) (hk : lwk P R n i e = some (d, b, cs.length) := by kernel_rfl)
  (hc : (Region.noSelect R && (Region.free .any R l i && (Region.ready .any R l).contains i && waits R m i && !(Nat.beq i m) && !(l.getD m false))) = true := by kernel_rfl)
  (hQ : PutOK Q := by repeat first | with_reducible exact yX | with_reducible apply yQ | with_reducible apply yV | with_reducible exact pk_bodyM | with_reducible exact pk_rnd) : wpD P R Q m F (k + 1) l a w := by
 have hv := val_of_lw (S := F) h hk hb
 rw [Bool.and_eq_true] at hc
 exact d_val h hv.1 hv.2 hF hc.1 hc.2 hQ kk
def callk (P : Program) (R : Array Oper) (n i : Nat) (e : Env) : Option (Nat × Nat × List Value) := match opk R n i e with
  | some (d, .call ⟨.value (.func f), xs, _⟩, _) => match xs.toList.mapM (ev e), P.funcs[f]? with
    | some vs, some fn => if (fn.body.isNone || fn.name == "runtime.NumGoroutine") = true then none else some (d, f, vs)
    | _, _ => none
  | _ => none
theorem yK {i : Nat} (d : Nat) {f : Nat} {vs : List Value} {Post : Value → World → Prop} {K : Act → World → Prop} (h : Has n e a) (hcall : Calls P f vs.toArray w (Ret Post)) (kr : ∀ v w' a', Post v w' → Has n ((d, v) :: e) a' → K a' w')
    (hk : callk P R n i e = some (d, f, vs) := by kernel_rfl) : wpOp P R Q i K a w := by
  unfold callk at hk
  split at hk
  · rename_i d' f' xs _ts ty ho
    obtain ⟨h1, h2⟩ := opk_at h ho
    split at hk
    · rename_i vs' fn hx hf
      split at hk
      · cases hk
      · rename_i hb
        simp only [Option.some.injEq, Prod.mk.injEq] at hk;obtain ⟨rfl, rfl, rfl⟩ := hk;exact o_ret h h1 h2 hx hf (by cases hq : (fn.body.isNone || fn.name == "runtime.NumGoroutine") with | false => rfl | true => exact absurd hq hb) hcall kr
    · cases hk
  · cases hk
theorem o_sa {i : Nat} {t : TypeId} {x y : Operand} {ty : TypeId} {b j : Nat} {cs vs : List Value} {T : TypeId} {K : Act → World → Prop} (p : Nat) (h : Has n e a) (ho : AtW R i (.store t x y) none ty a) (hS : Sat w0 w Rs)
  (k : ∀ w' a', Sat w0 w' (Rs.set p (SX.blk b (cs.take j ++ vs ++ cs.drop (j + vs.length)) T)) → Has n e a' → K a' w')
  (hx : ev e x = some (.pointer (some ⟨b, j, none⟩)) := by exact rfl) (hy : ev e y = some (.agg vs.toArray) := by exact rfl) (h1 : vs.all Value.oneCell' = true := by exact rfl) (ht : (P.info? t).map (·.size) = some vs.length := by kernel_rfl)
  (hp : Rs[p]? = some (SX.blk b cs T) := by exact rfl) (hj : j + vs.length ≤ cs.length := by exact Nat.le_of_ble_eq_true rfl) : wpOp P R Q i K a w := yG p h ho hx hy h1 ht hS hp hj rfl k
def apk (P : Program) (R : Array Oper) (n i : Nat) (e : Env) (sz : Nat) : Option (Nat × Value × Value × TypeId) := match opk R n i e with
  | some (d, .call ⟨.builtin .append, xs, ts⟩, _) => match xs.toList, ts.toList with
    | [s, x], [t, t2] => match ev e s, ev e x, P.underlying t with
      | some v, some u, some (.slice el) => match (P.info? el).map (fun i => (i.zero, i.size, i.bytes)) with
        | some (some z, sz', bytes) => if (Nat.beq t t2 && Nat.beq sz' sz && Nat.beq z.cells.size sz && Nat.blt 0 sz && Nat.ble bytes (100000 * sz)) = true then some (d, v, u, el) else none
        | _ => none
      | _, _, _ => none
    | _, _ => none
  | _ => none
theorem o_ap {i : Nat} (d p q : Nat) (xs' : List Value) {v : Value} {el sz b : Nat} {xs news : List Value} {T2 : TypeId} {K : Act → World → Prop} (h : Has n e a) (hS : Sat w0 w Rs) (hp : Rs[p]? = some (SX.row v el sz xs)) (hq : Rs[q]? = some (SX.blk b news T2)) (hlen : xs.length + news.length ≤ 1000000000) (hxs : xs ++ news = xs')
    (k : ∀ (z : Sl) w' a', Sat w0 w' (Rs.set p (SX.row (.slice z.A z.n z.c) el sz xs')) → z.n * sz = xs'.length → Has n ((d, .slice z.A z.n z.c) :: e) a' → K a' w')
    (hk : apk P R n i e sz = some (d, v, .slice (some ⟨b, 0, none⟩) 1 1, el) := by kernel_rfl) (hn : (Nat.beq news.length sz && news.all Value.oneCell') = true := by kernel_rfl) : wpOp P R Q i K a w := by
  unfold apk at hk
  split at hk
  · rename_i d' xs0 ts0 ty ho
    obtain ⟨h1, h2⟩ := opk_at h ho
    split at hk
    · rename_i s x t t2 hx0 ht0
      split at hk
      · rename_i v' u el' hv hu hel
        split at hk
        · rename_i z sz' bytes hinfo
          split at hk
          · rename_i hc
            simp only [Option.some.injEq, Prod.mk.injEq] at hk;obtain ⟨rfl, rfl, rfl, rfl⟩ := hk;simp only [Bool.and_eq_true] at hc hn;obtain ⟨⟨⟨⟨c1, c2⟩, c3⟩, c4⟩, c5⟩ := hc;obtain rfl := Nat.eq_of_beq_eq_true c1;obtain rfl := Nat.eq_of_beq_eq_true c2;obtain rfl : xs0 = #[s, x] := Array.toList_inj.1 hx0;obtain rfl : ts0 = #[t, t] := Array.toList_inj.1 ht0;exact zZ p q h h1 h2 hv hu hel hinfo (Nat.eq_of_beq_eq_true c3) (by simpa [Nat.blt_eq] using c4) hS hp hq (by rw [Nat.eq_of_beq_eq_true hn.1, Nat.one_mul]) hn.2 hlen (Nat.le_of_ble_eq_true c5) hxs k
          · cases hk
        · cases hk
      · cases hk
    · cases hk
  · cases hk
theorem yJ {i t x d ty : Nat} (h : (R[i]?).map spec = some (.load t (.tmp x), some d, ty, none) := by kernel_rfl) : AtW R i (.load t (.tmp x)) (some d) ty a := At.here h
theorem yU {i t x y : Nat} (h : (R[i]?).map spec = some (.store t (.tmp x) (.tmp y), none, 0, none) := by kernel_rfl) : AtW R i (.store t (.tmp x) (.tmp y)) none 0 a := At.here h
theorem xQ {i t x y d : Nat} (h : (R[i]?).map spec = some (.indexAddr t (.tmp x) (.tmp y), some d, 0, none) := by kernel_rfl) : AtW R i (.indexAddr t (.tmp x) (.tmp y)) (some d) 0 a := At.here h
theorem xW {m : Nat} {F : World → Prop} (i : Nat) {k : Nat} {l : Array Bool} (h : wpOp P R Q i (fun a' w' => ((l.setIfInBounds i true).getD m false = true ∨ F w') ∧ wpD P R Q m F k (l.setIfInBounds i true) a' w') a w)
  (hr : Region.ready .any R l = [i] := by kernel_rfl) : wpD P R Q m F (k + 1) l a w := d_one hr h
theorem xZ {m : Nat} {F : World → Prop} {l : Array Bool} {k : Nat} (h : Q .normal a w) (hr : Region.ready .any R l = [] := by kernel_rfl) : wpD P R Q m F k l a w := d_end hr h k
theorem zJ {A B C : Prop} (h : C) (ha : A := by kernel_rfl) : (A ∨ B) ∧ C := ⟨.inl ha, h⟩
abbrev cr (f : Func) (i : Nat) (b : Bool) : Code := Code.region i (xU f i) b
end
end SX
namespace SX
open Go.RowKit Go.Proofs.YtcbijhgepdedpaaW.PrintWords
section
variable {w0 w : World} {Rs : List Asn}
theorem Sat.perm_ {l1 l2 : List Asn} (hp : l1.Perm l2) : ∀ pre, Sat w0 w (pre ++ l1) → Sat w0 w (pre ++ l2) := by
 induction hp with
 | nil => exact fun _ h => h
 | cons x _ ih =>
  intro pre h
  have := ih (pre ++ [x]) (by simpa using h)
  simpa using this
 | swap x y l =>
  intro pre h
  have h1 : Sat w0 w (jK pre :: y :: x :: l) := h.merge
  have h2 : Sat w0 w (jK pre :: x :: y :: l) := h1.pickR (l := [jK pre, y, x]) [0, 2, 1] (by decide) [jK pre, x, y] rfl
  exact h2.split
 | trans _ _ ih1 ih2 => exact fun pre h => ih2 pre (ih1 pre h)
theorem Sat.perm {l1 l2 : List Asn} (h : Sat w0 w l1) (hp : l1.Perm l2) : Sat w0 w l2 := Sat.perm_ hp [] h
theorem Sat.takeOut {l1 l2 : List Asn} {A : Asn} (h : Sat w0 w (jK (l1 ++ A :: l2) :: Rs)) : Sat w0 w (A :: jK (l1 ++ l2) :: Rs) := by
 have h1 : Sat w0 w ((A :: (l1 ++ l2)) ++ Rs) := h.split.perm (List.Perm.append_right _ List.perm_middle)
 have h2 : Sat w0 w ((l1 ++ l2) ++ (A :: Rs)) := h1.perm (List.perm_middle.symm : (A :: ((l1 ++ l2) ++ Rs)).Perm ((l1 ++ l2) ++ A :: Rs))
 exact h2.merge.pickR (l := [jK (l1 ++ l2), A]) [1, 0] (by decide) [A, jK (l1 ++ l2)] rfl
theorem Sat.putIn {l1 l2 : List Asn} {A : Asn} (h : Sat w0 w (A :: jK (l1 ++ l2) :: Rs)) : Sat w0 w (jK (l1 ++ A :: l2) :: Rs) := by
 have h0 : Sat w0 w (jK (l1 ++ l2) :: A :: Rs) := h.pickR (l := [A, jK (l1 ++ l2)]) [1, 0] (by decide) [jK (l1 ++ l2), A] rfl
 have h1 : Sat w0 w ((l1 ++ l2) ++ (A :: Rs)) := h0.split
 have h2 : Sat w0 w ((l1 ++ A :: l2) ++ Rs) := h1.perm (by
  have e : ((A :: (l1 ++ l2)) ++ Rs).Perm ((l1 ++ A :: l2) ++ Rs) := List.Perm.append_right _ List.perm_middle.symm
  exact (List.perm_middle : ((l1 ++ l2) ++ (A :: Rs)).Perm (A :: ((l1 ++ l2) ++ Rs))).trans e)
 exact h2.merge
theorem Sat.takeAt {α : Type} {g : α → Asn} {l : List α} {j : Nat} {x : α} (hj : l[j]? = some x) (h : Sat w0 w (jK (l.map g) :: Rs)) : Sat w0 w (g x :: jK ((l.eraseIdx j).map g) :: Rs) := by
 have hlt := (List.getElem?_eq_some_iff.1 hj).1
 have hx : l[j] = x := (List.getElem?_eq_some_iff.1 hj).2
 have e1 : l = l.take j ++ x :: l.drop (j + 1) := by
  conv => lhs; rw [← List.take_append_drop j l, List.drop_eq_getElem_cons hlt, hx]
 have e2 : l.eraseIdx j = l.take j ++ l.drop (j + 1) := List.eraseIdx_eq_take_drop_succ l j
 rw [e2, List.map_append]
 refine Sat.takeOut ?_
 rw [e1, List.map_append, List.map_cons] at h
 exact h
theorem Sat.putAt {α : Type} {g : α → Asn} {l : List α} {j : Nat} {x y : α} (hj : l[j]? = some x) (h : Sat w0 w (g y :: jK ((l.eraseIdx j).map g) :: Rs)) : Sat w0 w (jK ((l.set j y).map g) :: Rs) := by
 have hlt := (List.getElem?_eq_some_iff.1 hj).1
 have e1 : l.set j y = l.take j ++ y :: l.drop (j + 1) := by rw [List.set_eq_take_append_cons_drop, if_pos hlt]
 have e2 : l.eraseIdx j = l.take j ++ l.drop (j + 1) := List.eraseIdx_eq_take_drop_succ l j
 rw [e2, List.map_append] at h
 rw [e1, List.map_append, List.map_cons]
 exact h.putIn
theorem Sat.pick0 {A : Asn} (h : Sat w0 w (A :: Rs)) : Sat w0 w Rs := by
 obtain ⟨hb, F, h1, h2, h3⟩ := h
 exact ⟨hb, fun j b => F (j + 1) b, fun j S hj => h1 (j + 1) S (by simpa using hj), fun i j b hi hj => by have := h2 _ _ b hi hj; omega, fun i b hi => h3 _ b hi⟩
end
end SX
namespace SX
open Go.RowKit
section
variable {P : Program} {n : Nat} {e : Env} {a : Act} {w w0 : World} {Rs : List Asn} {fn : Func} {Z : Ending → World → Prop}
def ResIs (P : Program) (tmps : Array Value) (w : World) : ResultVar → Value → Prop
 | .tmp t, v => tmps.getD t undef = v
 | .cell t ty, v => ∃ p, tmps.getD t undef = .pointer (some p) ∧ (loadVar ty p).run P w = .ok v w
theorem qZ {t : Nat} {v : Value} (h : Has n e a) (hv : lk e t = some v) : ResIs P a.tmps w (.tmp t) v := getD_held h hv
theorem zV {t ty b T i : Nat} {cs : List Value} (h : Has n e a) (hv : lk e t = some (.pointer (some ⟨b, 0, none⟩))) (hS : Sat w0 w Rs) (hi : Rs[i]? = some (SX.blk b cs T)) (ht : aggSize P ty = some cs.length) : ResIs P a.tmps w (.cell t ty) (.agg cs.toArray) := by
 refine ⟨_, getD_held h hv, run_loadVar_agg ht fun j u hu => ?_⟩
 rw [add0, Nat.zero_add]
 obtain ⟨F, h1, _⟩ := hS.at_ hi
 exact cell_blk h1.2 hu
def resOf (tmps : Array Value) : ResultVar → Sem Value
 | .tmp t => pure (tmps.getD t undef)
 | .cell a t => do loadVar t (← asAddr (tmps.getD a undef))
theorem resOf_run {tmps : Array Value} {r : ResultVar} {v : Value} (h : ResIs P tmps w r v) : (resOf tmps r).run P w = .ok v w := by
 cases r with
 | tmp t => simp only [ResIs] at h; simp [resOf, h]
 | cell t ty =>
  obtain ⟨p, h1, h2⟩ := h
  have h1' : tmps[t]?.getD undef = .pointer (some p) := by simpa using h1
  simp [resOf, h1', asAddr, h2]
theorem results_eq (fn : Func) (tmps : Array Value) : results fn tmps = (do let vs ← fn.results.mapM (resOf tmps); pure (if h : vs.size = 1 then vs[0] else .tuple vs)) := by
 unfold results
 congr 1
theorem jG {r1 : ResultVar} {v1 : Value} (h : Has n e a) (hr : fn.results = #[r1]) (h1 : ResIs P a.tmps w r1 v1) (k : Z (.returned v1) w) : bodyPost P fn Z .ret a w :=
 ⟨h.defers, v1, by rw [results_eq, hr]; simp [resOf_run h1], k⟩
end
theorem flat_length {α : Type} {enc : α → List Value} {sz : Nat} (hsz : ∀ x, (enc x).length = sz) (l : List α) : (l.flatMap enc).length = l.length * sz := by
 induction l with
 | nil => simp
 | cons x l ih => simp only [List.flatMap_cons, List.length_append, List.length_cons, hsz, ih]; rw [Nat.add_mul]; omega
theorem flat_get {α : Type} {enc : α → List Value} {sz : Nat} (hsz : ∀ x, (enc x).length = sz) {l : List α} {j o : Nat} {x : α} (hj : l[j]? = some x) (ho : o < sz) : (l.flatMap enc)[j * sz + o]? = (enc x)[o]? := by
 induction l generalizing j with
 | nil => simp at hj
 | cons y l ih =>
  cases j with
  | zero =>
   simp only [List.getElem?_cons_zero, Option.some.injEq] at hj;subst hj;simp only [List.flatMap_cons, Nat.zero_mul, Nat.zero_add];rw [List.getElem?_append_left (by rw [hsz]; exact ho)]
  | succ j =>
   simp only [List.getElem?_cons_succ] at hj;simp only [List.flatMap_cons];rw [List.getElem?_append_right (by rw [hsz, Nat.add_mul]; omega), hsz, show (j + 1) * sz + o - sz = j * sz + o from by rw [Nat.add_mul]; omega];exact ih hj
theorem flat_set {α : Type} {enc : α → List Value} {sz : Nat} (hsz : ∀ x, (enc x).length = sz) {l : List α} {j o : Nat} {x x' : α} {v : Value} (hj : l[j]? = some x) (ho : o < sz) (he : (enc x).set o v = enc x') : (l.flatMap enc).set (j * sz + o) v = (l.set j x').flatMap enc := by
 induction l generalizing j with
 | nil => simp at hj
 | cons y l ih =>
  cases j with
  | zero =>
   simp only [List.getElem?_cons_zero, Option.some.injEq] at hj;subst hj;simp only [List.flatMap_cons, Nat.zero_mul, Nat.zero_add, List.set_cons_zero];rw [List.set_append_left _ _ (by rw [hsz]; exact ho), he]
  | succ j =>
   simp only [List.getElem?_cons_succ] at hj;simp only [List.flatMap_cons, List.set_cons_succ];rw [List.set_append_right _ _ (by rw [hsz, Nat.add_mul]; omega), hsz, show (j + 1) * sz + o - sz = j * sz + o from by rw [Nat.add_mul]; omega, ih hj]
theorem flat_put {α : Type} {enc : α → List Value} {sz : Nat} (hsz : ∀ x, (enc x).length = sz) {l : List α} {j : Nat} {x x' : α} (hj : l[j]? = some x) : (l.flatMap enc).take (j * sz) ++ enc x' ++ (l.flatMap enc).drop (j * sz + (enc x').length) = (l.set j x').flatMap enc := by
 induction l generalizing j with
 | nil => simp at hj
 | cons y l ih =>
  cases j with
  | zero =>
   simp only [List.flatMap_cons, Nat.zero_mul, List.take_zero, List.nil_append, Nat.zero_add, List.set_cons_zero, hsz];rw [List.drop_left' (hsz y)]
  | succ j =>
   simp only [List.getElem?_cons_succ] at hj;simp only [List.flatMap_cons, List.set_cons_succ];rw [show (j + 1) * sz = (enc y).length + j * sz by rw [hsz, Nat.add_mul]; omega, Nat.add_assoc, List.take_length_add_append, List.drop_length_add_append];have h9 := ih hj;simp only [List.append_assoc] at h9 ⊢;rw [h9]
structure RdC (w : World) (s : Sl) (vs : List Value) : Prop where
 cells : ∀ (j : Nat) (u : Value), vs[j]? = some u → w.cell? ⟨bk s, j, none⟩ = some u
section
variable {w0 w : World} {Rs : List Asn} {s : Sl} {T : TypeId} {sz : Nat} {vs : List Value}
theorem Sat.rdC (h : Sat w0 w Rs) (i : Nat) (hi : Rs[i]? = some (SX.row s.v T sz vs)) : RdC w s vs := by
  obtain ⟨n, h1, h2⟩ := h.row i hi
  obtain ⟨A, sn, sc⟩ := s
  refine ⟨fun j u hu => ?_⟩
  have hlt := (List.getElem?_eq_some_iff.1 hu).1
  rcases h2 with ⟨e, h0⟩ | ⟨g, cap, cur, e, _, hg, h3, h4, h5, h6⟩
  · subst h0
    simp at h1
    subst h1
    simp at hlt
  · simp only [Sl.v, Value.slice.injEq] at e
    obtain ⟨rfl, rfl, rfl⟩ := e;have hc := cell_of_row w g j cur T (0, 0) hg
    show w.cell? ⟨g, j, none⟩ = some u
    rw [hc, ← Array.getElem?_toList];rw [← h6, List.getElem?_take] at hu
    split at hu
    · exact hu
    · cases hu
theorem Sat.rowA (h : Sat w0 w Rs) (i : Nat) (hi : Rs[i]? = some (SX.row s.v T sz vs)) (hne : 0 < vs.length) : s.A = some ⟨bk s, 0, none⟩ := by
  obtain ⟨n, h1, h2⟩ := h.row i hi
  obtain ⟨A, sn, sc⟩ := s
  rcases h2 with ⟨e, h0⟩ | ⟨g, cap, cur, e, _⟩
  · subst h0; omega
  · simp only [Sl.v, Value.slice.injEq] at e
    obtain ⟨rfl, rfl, rfl⟩ := e
    rfl
theorem Sat.rowN (h : Sat w0 w Rs) (i : Nat) (hi : Rs[i]? = some (SX.row s.v T sz vs)) : vs.length = s.n * sz := by
  obtain ⟨n, h1, h2⟩ := h.row i hi
  obtain ⟨A, sn, sc⟩ := s
  rcases h2 with ⟨e, h0⟩ | ⟨g, cap, cur, e, _⟩
  · simp only [Sl.v, Value.slice.injEq] at e
    obtain ⟨rfl, rfl, rfl⟩ := e;subst h0;exact h1
  · simp only [Sl.v, Value.slice.injEq] at e
    obtain ⟨rfl, rfl, rfl⟩ := e;exact h1
theorem Sat.rowL {α : Type} {enc : α → List Value} {l : List α} (h : Sat w0 w Rs) (i : Nat) (hsz : ∀ x, (enc x).length = sz) (h0 : 0 < sz) (hi : Rs[i]? = some (SX.row s.v T sz (l.flatMap enc))) : s.n = l.length := by
 have := h.rowN i hi
 rw [flat_length hsz] at this
 exact (Nat.eq_of_mul_eq_mul_right h0 this).symm
end
section
variable {P : Program} {R : Array Oper} {Q : Exit → Act → World → Prop} {n : Nat} {e : Env} {a : Act} {w w0 : World} {Rs : List Asn}
theorem jH {S : World → Prop} {i d : Nat} {t el : TypeId} {x ix : Operand} {ty : TypeId} {s : Sl} {sz j : Nat} {k : IntKind} {q : Int} (h : Has n e a) (ho : AtW R i (.indexAddr t x ix) (some d) ty a)
  (hx : ev e x = some (.slice s.A s.n s.c)) (hi : ev e ix = some (.int k q)) (ht : P.underlying t = some (.slice el)) (hs : (P.info? el).map (·.size) = some sz) (hA : s.A = some ⟨bk s, 0, none⟩) (hq : q = (j : Int)) (h1 : j < s.n) :
  Val P R i a S d (.pointer (some ⟨bk s, j * sz, none⟩)) := by
 subst hq
 have := v_index (S := S) (q := (j : Int)) (off := 0) (b := bk s) (len := s.n) (cap := s.c) h ho (by rw [hx, hA]) hi ht hs (by omega) (by omega)
 simpa using this
theorem xY {i : Nat} {t : TypeId} {x y : Operand} {ty : TypeId} {j sz : Nat} {s : Sl} {xs xs' : List Value} {T : TypeId} {v : Value} {K : Act → World → Prop} (p : Nat) (h : Has n e a) (ho : AtW R i (.store t x y) none ty a)
  (hx : ev e x = some (.pointer (some ⟨bk s, j, none⟩))) (hy : ev e y = some v) (h1 : v.oneCell' = true) (ht : (P.info? t).map (·.size) = some 1) (hS : Sat w0 w Rs) (hp : Rs[p]? = some (SX.row s.v T sz xs)) (hj : j < xs.length) (hcs : xs.set j v = xs')
  (k : ∀ w' a', Sat w0 w' (Rs.set p (SX.row s.v T sz xs')) → Has n e a' → K a' w') : wpOp P R Q i K a w := by
 have hne : xs ≠ [] := fun e => by rw [e] at hj; exact absurd hj (Nat.not_lt_zero _)
 obtain ⟨g, m, cap, cur, e1, h2, h3, h4, h5, hS2⟩ := hS.openRow p hp hne
 have hb : bk s = g := by
  obtain ⟨A, sn, sc⟩ := s
  simp only [Sl.v, Value.slice.injEq] at e1
  obtain ⟨rfl, rfl, rfl⟩ := e1
  rfl
 have hpl : p < Rs.length := (List.getElem?_eq_some_iff.1 hp).1
 refine o_store (cs := xs ++ cur) (cs' := xs' ++ cur) (b := bk s) p h ho hx hy h1 ht hS2 (by rw [hb, List.getElem?_set_self hpl]) (by rw [List.length_append]; omega) (by rw [List.set_append_left _ _ hj, hcs]) fun w' a' hS' ha' => k w' a' ?_ ha'
 rw [List.set_set, hb] at hS'
 have hl : xs'.length = xs.length := by rw [← hcs, List.length_set]
 have := hS'.shutRow (n := m) (sz := sz) p (by rw [List.getElem?_set_self hpl]) (by rw [hl]; exact h2) h3 h4 (by rw [List.length_append] at h5 ⊢; rw [hl]; exact h5)
 rw [List.set_set, ← e1] at this
 exact this
theorem o_storeRowA {i : Nat} {t : TypeId} {x y : Operand} {ty : TypeId} {j sz : Nat} {s : Sl} {xs xs' vs : List Value} {T : TypeId} {K : Act → World → Prop} (p : Nat) (h : Has n e a) (ho : AtW R i (.store t x y) none ty a)
  (hx : ev e x = some (.pointer (some ⟨bk s, j, none⟩))) (hy : ev e y = some (.agg vs.toArray)) (h1 : vs.all Value.oneCell' = true) (ht : (P.info? t).map (·.size) = some vs.length) (hS : Sat w0 w Rs) (hp : Rs[p]? = some (SX.row s.v T sz xs)) (hj : j + vs.length ≤ xs.length) (hv : 0 < vs.length)
  (hcs : xs.take j ++ vs ++ xs.drop (j + vs.length) = xs') (k : ∀ w' a', Sat w0 w' (Rs.set p (SX.row s.v T sz xs')) → Has n e a' → K a' w') : wpOp P R Q i K a w := by
 have hne : xs ≠ [] := fun e => by rw [e, List.length_nil] at hj; omega
 obtain ⟨g, m, cap, cur, e1, h2, h3, h4, h5, hS2⟩ := hS.openRow p hp hne
 have hb : bk s = g := by
  obtain ⟨A, sn, sc⟩ := s
  simp only [Sl.v, Value.slice.injEq] at e1
  obtain ⟨rfl, rfl, rfl⟩ := e1
  rfl
 have hpl : p < Rs.length := (List.getElem?_eq_some_iff.1 hp).1
 refine yG (cs := xs ++ cur) (cs' := xs' ++ cur) (b := bk s) p h ho hx hy h1 ht hS2 (by rw [hb, List.getElem?_set_self hpl]) (by rw [List.length_append]; omega) (by rw [List.take_append_of_le_length (by omega), List.drop_append_of_le_length hj, ← hcs, List.append_assoc, List.append_assoc, List.append_assoc]) fun w' a' hS' ha' => k w' a' ?_ ha'
 rw [List.set_set, hb] at hS'
 have hl : xs'.length = xs.length := by rw [← hcs]; simp only [List.length_append, List.length_take, List.length_drop]; omega
 have := hS'.shutRow (n := m) (sz := sz) p (by rw [List.getElem?_set_self hpl]) (by rw [hl]; exact h2) h3 h4 (by rw [List.length_append] at h5 ⊢; rw [hl]; exact h5)
 rw [List.set_set, ← e1] at this
 exact this
theorem v_takeZ {S : World → Prop} {i d : Nat} {t el : TypeId} {x y : Operand} {ty : TypeId} {A : Option Addr} {m c j : Nat} {q : Int} (h : Has n e a) (ho : AtW R i (.slice t x none (some y) none) (some d) ty a)
  (hx : ev e x = some (.slice A m c)) (hy : ev e y = some (.int .i64 q)) (ht : P.underlying t = some (.slice el)) (hs : ((P.info? el).map (·.size)).isSome = true) (hq : q = (j : Int)) (hj : j ≤ m) (hm : m ≤ c) :
  Val P R i a S d (.slice A j c) :=
 Val.of_run ho fun o w h1 h2 hS => by
  subst hq
  rw [exec_eq h h1 h2 (by simp [covers, Op.operands, hx, hy, notSelect])]
  obtain ⟨sz, hsz⟩ := Option.isSome_iff_exists.1 hs
  obtain ⟨ti, hti, _⟩ := Option.map_eq_some_iff.1 hsz
  have hA : A.map (fun a => a.add 0) = A := by cases A <;> simp [Addr.add]
  simp [execOp, opr, evD, hx, hy, Instr.sliceAt, Instr.slice, underlying, ht, Instr.sliceBounds, Instr.sliceBound, asIntOf, sizeOf, typeInfo, hti, hA]
  exact fun hh => absurd hh (by omega)
end
theorem Sat.rowTake {w0 w : World} {Rs : List Asn} {A : Option Addr} {n c : Nat} {T : TypeId} {sz : Nat} {xs : List Value} (h : Sat w0 w Rs) (i : Nat) (hi : Rs[i]? = some (SX.row (.slice A n c) T sz xs)) (j : Nat) (hj : j ≤ n) : Sat w0 w (Rs.set i (SX.row (.slice A j c) T sz (xs.take (j * sz)))) := by
  refine h.turn hi _ fun F hF => ?_
  obtain ⟨h1, m, h2, h3⟩ := hF
  rcases h3 with ⟨e, h0⟩ | ⟨g, cap, cur, e, hb, hg, h4, h5, h6, h7⟩
  · simp only [Value.slice.injEq] at e
    obtain ⟨rfl, rfl, rfl⟩ := e;obtain rfl : j = 0 := by omega
    exact ⟨h1, 0, by simp, .inl ⟨rfl, rfl⟩⟩
  · simp only [Value.slice.injEq] at e
    obtain ⟨rfl, rfl, rfl⟩ := e;have hjm : j * sz ≤ n * sz := Nat.mul_le_mul_right _ hj;refine ⟨fun k => by rw [h1 k]; simp [Value.ownBlock], j, by rw [List.length_take]; omega, .inr ⟨g, c, cur, rfl, hb, hg, by omega, h5, h6, ?_⟩⟩;rw [← h7, List.take_take, Nat.min_eq_left hjm]
theorem flat_take {α : Type} {enc : α → List Value} {sz : Nat} (hsz : ∀ x, (enc x).length = sz) (l : List α) (j : Nat) : (l.flatMap enc).take (j * sz) = (l.take j).flatMap enc := by
 induction l generalizing j with
 | nil => simp
 | cons x l ih =>
  cases j with
  | zero => simp
  | succ j =>
   simp only [List.flatMap_cons, List.take_succ_cons];rw [List.take_append, hsz, show (j + 1) * sz - sz = j * sz from by rw [Nat.add_mul]; omega, ih, List.take_of_length_le (by rw [hsz, Nat.add_mul]; omega)]
theorem Sat.blk0 {w0 w : World} {Rs : List Asn} (h : Sat w0 w Rs) {b : Nat} {T : TypeId} (sz : Nat) (i : Nat) (hi : Rs[i]? = some (SX.blk b [] T)) : Sat w0 w (Rs.set i (SX.row (.slice (some ⟨b, 0, none⟩) 0 0) T sz [])) := by
 refine h.turn hi _ fun F hF => ⟨fun k => ?_, 0, by simp, .inr ⟨b, 0, #[], rfl, Nat.zero_le _, hF.2, Nat.le_refl _, by decide, by simp, by simp⟩⟩
 rw [hF.1 k]
 simp [Value.ownBlock, eq_comm]
section
variable {P : Program} {R : Array Oper} {Q : Exit → Act → World → Prop} {n : Nat} {e : Env} {a : Act} {w w0 : World} {Rs : List Asn}
theorem o_appRow0 {i d : Nat} {s x : Operand} {t el ty : TypeId} {sz bytes m un c b : Nat} {A : Option Addr} {ys ys' : List Value} {z : Value} {K : Act → World → Prop} (p q : Nat) (h : Has n e a) (hd : d < n)
    (ho : AtW R i (.call { callee := .builtin .append, args := #[s, x], argTypes := #[t, t] }) (some d) ty a) (hs : ev e s = some (.slice (some ⟨b, 0, none⟩) 0 0)) (hx : ev e x = some (.slice A m c))
    (ht : P.underlying t = some (.slice el)) (hinfo : (P.info? el).map (fun i => (i.zero, i.size, i.bytes)) = some (some z, sz, bytes)) (hz : z.cells.size = sz) (hsz : 0 < sz)
    (hS : Sat w0 w Rs) (hp : Rs[p]? = some (SX.blk b [] el)) (hq : Rs[q]? = some (SX.row (.slice A un c) el sz ys)) (hm : m ≤ un) (h1 : ys.all Value.oneCell' = true) (hlen : ys.length ≤ 1000000000) (hby : bytes ≤ 100000 * sz) (hys : ys.take (m * sz) = ys')
    (k : ∀ (z : Sl) w' a', Sat w0 w' (Rs.set p (SX.row (.slice z.A z.n z.c) el sz ys')) → z.n * sz = ys'.length → Has n ((d, .slice z.A z.n z.c) :: e) a' → K a' w') : wpOp P R Q i K a w := by
  obtain ⟨i0, hi, hzz⟩ := Option.map_eq_some_iff.1 hinfo
  simp only [Prod.mk.injEq] at hzz
  obtain ⟨hz0, hz1, hz2⟩ := hzz
  have hpl : p < Rs.length := (List.getElem?_eq_some_iff.1 hp).1
  have hS1 := hS.blk0 sz p hp
  have hown0 := hS1.row p (by rw [List.getElem?_set_self hpl])
  obtain ⟨n0, hown⟩ := hown0
  have hn0 : n0 = 0 := by
    have h9 := hown.1;simp only [List.length_nil] at h9
    rcases Nat.eq_zero_or_pos n0 with h0 | h0
    · exact h0
    · have := Nat.mul_pos h0 hsz; omega
  subst hn0
  obtain ⟨us, g1, g2⟩ := hS.row q hq
  rcases g2 with ⟨ev0, hus⟩ | ⟨g, cap, cur, ev0, _, hg, g3, g4, g5, g6⟩
  · simp only [Value.slice.injEq] at ev0
    obtain ⟨rfl, rfl, rfl⟩ := ev0;obtain rfl : m = 0 := by omega
    have hr := run_append_owned_none (P := P) (w := w) 0 t ty el i0 sz ht hi _ _ _ hown
    have hrun : (execOp (evD e) (opr (.call { callee := .builtin .append, args := #[s, x], argTypes := #[t, t] }) ty)).run P w = .ok (.value (.slice (some ⟨b, 0, none⟩) 0 0)) w := by
      simp [execOp, opr, resolve, invoke, builtin, evD, hs, hx, hr]
    simp only [Nat.zero_mul, List.take_zero] at hys;subst hys;exact o_val h hd ho (by simp [covers, Op.operands, Call.operands, hs, hx, notSelect]) hrun fun a' ha => k ⟨some ⟨b, 0, none⟩, 0, 0⟩ w a' hS1 (by simp) ha
  · simp only [Value.slice.injEq] at ev0
    obtain ⟨rfl, rfl, rfl⟩ := ev0;have hle : m * sz ≤ un * sz := Nat.mul_le_mul_right _ hm;have hl : ys'.length = m * sz := by rw [← hys, List.length_take]; omega
    have hcells : ∀ j u, ys'[j]? = some u → w.cell? ((⟨g, 0, none⟩ : Addr).add j) = some u := fun j u hu => by
      rw [add0, Nat.zero_add, cell_of_row w g j cur el (0, 0) hg, ← Array.getElem?_toList];rw [← hys, List.getElem?_take] at hu
      split at hu
      · rw [← g6, List.getElem?_take] at hu
        split at hu
        · exact hu
        · cases hu
      · cases hu
    have hm1 : m ≤ 1000000000 := Nat.le_trans (Nat.le_mul_of_pos_right _ hsz) (by omega)
    have hbytes : (0 + m) * bytes ≤ 140737488355328 := by
      have h2 : m * bytes ≤ m * (100000 * sz) := Nat.mul_le_mul_left _ hby;have h3 : m * (100000 * sz) = 100000 * (m * sz) := by rw [Nat.mul_left_comm]
      rw [Nat.zero_add]
      omega
    have h1' : ∀ u ∈ ys', u.oneCell' = true := fun u hu => List.all_eq_true.1 h1 u (List.mem_of_mem_take (hys ▸ hu));obtain ⟨v', w', hr, h2, h3, h4, h5⟩ := run_append_own_at (P := P) w 0 t ty el i0 z sz bytes ht hi hz0 hz1 hz2 hz hsz _ 0 [] hown ⟨g, 0, none⟩ m c ys' hl hcells h1' (by simp only [maxLen]; omega) hbytes (Nat.zero_le _)
    have hrun : (execOp (evD e) (opr (.call { callee := .builtin .append, args := #[s, x], argTypes := #[t, t] }) ty)).run P w = .ok (.value v') w' := by
      simp [execOp, opr, resolve, invoke, builtin, evD, hs, hx, hr]
    have hS' : Sat w0 w' (Rs.set p (SX.row v' el sz ys')) := by
      have h9 := hS1.upd (i := p) (R := SX.row (.slice (some ⟨b, 0, none⟩) 0 0) el sz []) (w' := w') (by rw [List.getElem?_set_self hpl]) (SX.row v' el sz ys') h3.os h3.tape h3.output h3.size fun F hF => ⟨fun k => v'.ownBlock = some k, ⟨fun _ => Iff.rfl, _, by simpa using h2⟩, fun k hk => ?_, fun k hk hF' => h3.block k hk fun e => hF' ((hF.1 k).2 e.symm)⟩
      · rwa [List.set_set] at h9
      · rcases h5 with h5 | h5
        · exact .inl ((hF.1 k).2 (by rw [← h5]; exact hk))
        · rw [h5] at hk
          injection hk with hk
          exact .inr (by omega)
    obtain ⟨A, nn, cc, rfl, hnn⟩ : ∃ A nn cc, v' = .slice A nn cc ∧ nn = 0 + m := by
      rcases h2.2 with ⟨rfl, hn0⟩ | ⟨g, cap, cur, rfl, _⟩
      · exact ⟨none, 0, 0, rfl, hn0.symm⟩
      · exact ⟨_, _, cap, rfl, rfl⟩
    refine o_val h hd ho (by simp [covers, Op.operands, Call.operands, hs, hx, notSelect]) hrun fun a' ha => k ⟨A, nn, cc⟩ w' a' hS' ?_ ha;simp only [hnn, Nat.zero_add, hl]
end
structure CallI where
 fn : Int
 par : Int
 dfr : Bool
 en : Int
 val : Int
 arg : Int
structure PanI where
 call : Int
 fn : Int
 value : Int
 depth : Int
 fate : Int
 by_ : Int
 last : Int
 again : Bool
 unw : List Int
def PanI.zero : PanI := { call := 0, fn := 0, value := 0, depth := 0, fate := 0, by_ := 0, last := 0, again := false, unw := [] }
end SX
end Go.Proofs.Ytcbijhgepdedpaa
