/- What the claim FnExactErrorsOfRun rests on, part 4 of 22; the last part proves it: for every input the law answers true, and its arguments read behind the call as before it. No condition. -/
import Derived.OrdersHeld
import Derived.Below
import Derived.KernelRfl
import Derived.Laws.AppendOwn
import Derived.Laws.OwnMore
import Derived.Maps.AppendAt
import Derived.WalkKit
namespace Go.Proofs.Ytcbijhgepdedpaa
namespace SX
open Go.RowKit
abbrev Env := List (Nat × Value)
def lk : Env → Nat → Option Value
 | [], _ => none
 | (k, v) :: r, t => bif Nat.beq k t then some v else lk r t
def ev (e : Env) : Operand → Option Value
 | .tmp t => lk e t
 | .const v => some v
 | .func f => some (.func (.func f) #[] #[])
 | .global g => some (.pointer (some ⟨g, 0, none⟩))
structure Has (n : Nat) (e : Env) (a : Act) : Prop where
 size : a.tmps.size = n
 defers : a.defers = []
 held : ∀ t v, lk e t = some v → a.tmps[t]? = some v
theorem Has.ev {n : Nat} {e : Env} {a : Act} {x : Operand} {v : Value} (h : Has n e a) (hx : ev e x = some v) : a.eval x = v := by
 cases x with
 | tmp t =>
  have h1 := h.held t v hx
  simp [Act.eval, h1]
 | const c => simpa [SX.ev, Act.eval] using hx
 | func f => simpa [SX.ev, Act.eval] using hx
 | global g => simpa [SX.ev, Act.eval] using hx
theorem lk_cons (k : Nat) (v : Value) (r : Env) (t : Nat) : lk ((k, v) :: r) t = if k = t then some v else lk r t := by
  by_cases h : k = t
  · subst h; simp [lk]
  · have : Nat.beq k t = false := Bool.eq_false_iff.2 fun hb => h (Nat.eq_of_beq_eq_true hb)
    simp [lk, this, h]
theorem Has.put {n : Nat} {e : Env} {a : Act} (h : Has n e a) (d : Nat) (v : Value) (hd : d < n) : Has n ((d, v) :: e) (a.put (some d) v) := by
  refine ⟨by simp [Act.put, h.size], by simpa [Act.put] using h.defers, fun t u hu => ?_⟩
  rw [lk_cons] at hu
  by_cases ht : d = t
  · subst ht
    simp at hu
    subst hu
    simp [Act.put, h.size, hd]
  · rw [if_neg ht] at hu
    have := h.held t u hu
    simp [Act.put, Array.getElem?_setIfInBounds_ne ht, this]
theorem Has.sub {n : Nat} {e e' : Env} {a : Act} (h : Has n e a) (hs : ∀ p ∈ e', lk e p.1 = some p.2) : Has n e' a := by
 refine ⟨h.size, h.defers, fun t v hv => h.held t v ?_⟩
 have key : ∀ l : Env, lk l t = some v → (t, v) ∈ l := by
  intro l
  induction l with
  | nil => intro h; simp [lk] at h
  | cons p r ih =>
   obtain ⟨k, u⟩ := p;intro h;rw [lk_cons] at h
   by_cases hk : k = t
   · subst hk; simp at h; subst h; simp
   · rw [if_neg hk] at h; exact List.mem_cons_of_mem _ (ih h)
 exact hs _ (key e' hv)
def keep (e : Env) : List Nat → Env
  | [] => []
  | t :: ts => match lk e t with
    | some v => (t, v) :: keep e ts
    | none => keep e ts
theorem keep_sub (e : Env) (ts : List Nat) : ∀ p ∈ keep e ts, lk e p.1 = some p.2 := by
 induction ts with
 | nil => intro p hp; simp [keep] at hp
 | cons t ts ih =>
  intro p hp
  unfold keep at hp
  cases h : lk e t with
  | none => rw [h] at hp; exact ih p hp
  | some v =>
   rw [h] at hp
   rcases List.mem_cons.1 hp with rfl | hp
   · exact h
   · exact ih p hp
theorem Has.keeps {n : Nat} {e : Env} {a : Act} (h : Has n e a) (ts : List Nat) (e' : Env) (he : keep e ts = e') : Has n e' a := he ▸ h.sub (keep_sub e ts)
def env0 (l : List Value) (i : Nat) : Env := match l with
 | [] => []
 | v :: r => (i, v) :: env0 r (i + 1)
theorem lk_env0 (l : List Value) : ∀ i t v, lk (env0 l i) t = some v → i ≤ t ∧ l[t - i]? = some v := by
  induction l with
  | nil => intro i t v h; simp [env0, lk] at h
  | cons x l ih =>
    intro i t v h;simp only [env0] at h;rw [lk_cons] at h
    by_cases hi : i = t
    · subst hi; simp at h; subst h; simp
    · rw [if_neg hi] at h
      obtain ⟨h1, h2⟩ := ih _ _ _ h;refine ⟨by omega, ?_⟩;rw [show t - i = (t - (i + 1)) + 1 from by omega]
      simpa using h2
theorem Has.start (args : List Value) (n : Nat) (hn : args.length ≤ n) : Has n (env0 args 0) { tmps := args.toArray ++ Array.replicate (n - args.toArray.size) undef, defers := [] } := by
 refine ⟨by simp; omega, rfl, fun t v h => ?_⟩
 obtain ⟨_, h2⟩ := lk_env0 args 0 t v h
 have hl : t < args.length := by
  have := List.getElem?_eq_some_iff.1 h2
  simpa using this.1
 simp only [Nat.sub_zero] at h2
 rw [Array.getElem?_append_left (by simpa using hl)]
 simpa using h2
def regs : Code → List (Nat × Array Oper)
 | .region id ops _ => [(id, ops)]
 | .seq a b => regs a ++ regs b
 | .cond _ a b => regs a ++ regs b
 | .block _ c => regs c
 | .loop c => regs c
 | .scope c => regs c
 | .rangeFunc _ _ a b => regs a ++ regs b
 | _ => []
def regIn : List (Nat × Array Oper) → Nat → Array Oper
 | [], _ => #[]
 | (j, r) :: l, i => bif Nat.beq j i then r else regIn l i
def qQ (f : Func) (id : Nat) : Array Oper := match f.body with
 | some c => regIn (regs c) id
 | none => #[]
def spec (o : Oper) : Op × Option Nat × TypeId × Option (Nat × Bool) := (o.op, o.dst, o.type, o.guard)
def At (R : Array Oper) (i : Nat) (op : Op) (d : Option Nat) (ty : TypeId) : Prop := (R[i]?).map spec = some (op, d, ty, none)
theorem At.get {R : Array Oper} {i : Nat} {op : Op} {d : Option Nat} {ty : TypeId} (h : At R i op d ty) : ∃ o, R[i]? = some o ∧ o.op = op ∧ o.dst = d ∧ o.type = ty ∧ o.guard = none := by
 obtain ⟨o, ho, hs⟩ := Option.map_eq_some_iff.1 h
 simp only [spec, Prod.mk.injEq] at hs
 exact ⟨o, ho, hs.1, hs.2.1, hs.2.2.1, hs.2.2.2⟩
def AtG (R : Array Oper) (i : Nat) (op : Op) (d : Option Nat) (ty : TypeId) (g : Nat) (b : Bool) (gd : Nat) : Prop :=
 (R[i]?).map spec = some (op, d, ty, some (g, b)) ∧ (R[g]?).bind (·.dst) = some gd
section
variable {P : Program} {R : Array Oper} {Q : Exit → Act → World → Prop} {n : Nat} {e : Env} {a : Act} {w : World}
theorem wanted_none {o : Oper} {y : Nat → Option Bool} (h : o.guard = none) : Region.wanted o y = true := by simp [Region.wanted, h]
def AtW (R : Array Oper) (i : Nat) (op : Op) (d : Option Nat) (ty : TypeId) (a : Act) : Prop := ∃ o, R[i]? = some o ∧ o.op = op ∧ o.dst = d ∧ o.type = ty ∧ Region.wanted o (yielded R a.tmps) = true
theorem At.here {i : Nat} {op : Op} {d : Option Nat} {ty : TypeId} (h : At R i op d ty) : AtW R i op d ty a := by
 obtain ⟨o, h1, h2, h3, h4, h5⟩ := h.get
 exact ⟨o, h1, h2, h3, h4, wanted_none h5⟩
theorem AtG.wanted {i g gd : Nat} {op : Op} {d : Option Nat} {ty : TypeId} {b c : Bool} (ho : AtG R i op d ty g b gd) (h : Has n e a) (hg : lk e gd = some (.bool c)) :
  ∃ o, R[i]? = some o ∧ o.op = op ∧ o.dst = d ∧ o.type = ty ∧ Region.wanted o (yielded R a.tmps) = (c == b) := by
 obtain ⟨o, h1, hs⟩ := Option.map_eq_some_iff.1 ho.1
 simp only [spec, Prod.mk.injEq] at hs
 refine ⟨o, h1, hs.1, hs.2.1, hs.2.2.1, ?_⟩
 have hy : yielded R a.tmps g = some c := by
  have h3 := h.held _ _ hg
  have h4 := ho.2
  unfold yielded
  simp [h4, h3]
 simp only [Region.wanted, hs.2.2.2, hy]
 cases c <;> cases b <;> rfl
theorem AtG.here {i g gd : Nat} {op : Op} {d : Option Nat} {ty : TypeId} {b : Bool} (ho : AtG R i op d ty g b gd) (h : Has n e a) (hg : lk e gd = some (.bool b)) : AtW R i op d ty a := by
 obtain ⟨o, h1, h2, h3, h4, h5⟩ := ho.wanted h hg
 exact ⟨o, h1, h2, h3, h4, by rw [h5]; simp⟩
structure Val (P : Program) (R : Array Oper) (i : Nat) (a : Act) (S : World → Prop) (d : Nat) (v : Value) : Prop where
 mk :: (out : ∃ o, R[i]? = some o ∧ o.dst = some d ∧ YieldsIf P R S o v a)
theorem Val.of_run {i : Nat} {op : Op} {d : Nat} {ty : TypeId} {S : World → Prop} {v : Value} (ho : AtW R i op (some d) ty a)
  (h : ∀ o w, o.op = op → o.type = ty → S w → (execOp a.eval o).run P w = .ok (.value v) w) : Val P R i a S d v := by
 obtain ⟨o, h1, h2, h3, h4, h5⟩ := ho
 exact ⟨⟨o, h1, h3, .inl ⟨h5, fun w hS => h o w h2 h4 hS⟩⟩⟩
theorem Val.here {i d : Nat} {v : Value} {S : World → Prop} (y : Val P R i a S d v) {K : Act → World → Prop} (hS : S w) (k : K (a.put (some d) v) w) : wpOp P R Q i K a w := by
 obtain ⟨o, h1, h2, h3⟩ := y.out
 exact h3.wpOp h1 hS (by rw [h2]; exact k)
theorem p_val {i d : Nat} {v : Value} {rest : List Nat} (h : Has n e a) (hd : d < n) (y : Val P R i a (fun w' => w' = w) d v)
  (k : ∀ a', Has n ((d, v) :: e) a' → wpOps P R Q rest a' w) : wpOps P R Q (i :: rest) a w := by
 rw [wpOps_cons]
 exact y.here rfl (k _ (h.put d v hd))
theorem jZ {i : Nat} {rest : List Nat} (h : wpOp P R Q i (wpOps P R Q rest) a w) : wpOps P R Q (i :: rest) a w := by rw [wpOps_cons]; exact h
theorem jY (h : Q .normal a w) : wpOps P R Q [] a w := h
theorem jJ {K : Act → World → Prop} (h : K a w) : Exit.then K Q .normal a w := h
theorem yX {K : Act → World → Prop} {i : Nat} (h : Q (.exit i) a w) : Exit.then K Q (.exit i) a w := h
theorem xQ {K : Act → World → Prop} (h : Q .ret a w) : Exit.then K Q .ret a w := h
theorem then_p {K : Act → World → Prop} {c : List PanicEntry} (h : Q (.panic c) a w) : Exit.then K Q (.panic c) a w := h
theorem in_n {i : Nat} (h : Q .normal a w) : Exit.inBlock i Q .normal a w := h
theorem in_r {i : Nat} (h : Q .ret a w) : Exit.inBlock i Q .ret a w := h
theorem in_p {i : Nat} {c : List PanicEntry} (h : Q (.panic c) a w) : Exit.inBlock i Q (.panic c) a w := h
theorem in_x {i : Nat} (h : Q .normal a w) : Exit.inBlock i Q (.exit i) a w := by simp only [Exit.inBlock, if_true]; exact h
def PutOK (Q : Exit → Act → World → Prop) : Prop := ∀ (c : List PanicEntry) (d : Option Nat) (v : Value) (a : Act) (w : World), Q (.panic c) (a.put d v) w → Q (.panic c) a w
theorem kV {fn : Func} {Z : Ending → World → Prop} : PutOK (bodyPost P fn Z) := fun c d v a w h => by cases d <;> exact h
theorem kY {K : Act → World → Prop} (h : PutOK Q) : PutOK (Exit.then K Q) := h
theorem kU {i : Nat} (h : PutOK Q) : PutOK (Exit.inBlock i Q) := h
theorem jG {c : Operand} {x y : Code} {t : Bool} (h : Has n e a) (hc : ev e c = some (.bool t)) (ht : t = true) (k : x.wp P Q a w) : (Code.cond c x y).wp P Q a w := by
 subst ht; exact wp_cond_true (h.ev hc) k
theorem jV {c : Operand} {x y : Code} {t : Bool} (h : Has n e a) (hc : ev e c = some (.bool t)) (ht : t = false) (k : y.wp P Q a w) : (Code.cond c x y).wp P Q a w := by
 subst ht; exact wp_cond_false (h.ev hc) k
theorem forall_mem_2 {i j : Nat} {p : Nat → Prop} (h1 : p i) (h2 : p j) : ∀ k ∈ [i, j], p k := by
 intro k hk
 simp only [List.mem_cons, List.not_mem_nil, or_false] at hk
 rcases hk with rfl | rfl <;> assumption
theorem wrap_i64 {x : Int} (h0 : -9223372036854775808 ≤ x) (h1 : x ≤ 9223372036854775807) : IntKind.i64.wrap x = x := by rw [IntKind.wrap_i64]; omega
theorem enter {f : Nat} {fn : Func} {c : Code} {args : List Value} {Z : Ending → World → Prop} (hf : P.funcs[f]? = some fn) (hb : fn.body = some c) (hn : fn.ntmps = n) (hl : args.length ≤ n)
  (h : ∀ a, Has n (env0 args 0) a → c.wp P (bodyPost P fn Z) a w) : Calls P f args.toArray w Z := by
 refine calls_of_wp hf hb ?_
 rw [hn]
 exact h _ (Has.start args n hl)
theorem end_none {fn : Func} {Z : Ending → World → Prop} (h : Has n e a) (hr : fn.results = #[]) (k : Z (.returned (.tuple #[])) w) : bodyPost P fn Z .normal a w := ⟨h.defers, _, results_none hr _ _ _, k⟩
theorem end_noneR {fn : Func} {Z : Ending → World → Prop} (h : Has n e a) (hr : fn.results = #[]) (k : Z (.returned (.tuple #[])) w) : bodyPost P fn Z .ret a w := ⟨h.defers, _, results_none hr _ _ _, k⟩
theorem getD_held {t : Nat} {v : Value} (h : Has n e a) (hv : lk e t = some v) : a.tmps.getD t undef = v := by
 have := h.held t v hv
 simp [this]
theorem end_tmp {fn : Func} {Z : Ending → World → Prop} {t : Nat} {v : Value} (h : Has n e a) (hr : fn.results = #[.tmp t]) (hv : lk e t = some v) (k : Z (.returned v) w) : bodyPost P fn Z .ret a w :=
 ⟨h.defers, v, by rw [results_tmp hr, getD_held h hv], k⟩
theorem end_tmp2 {fn : Func} {Z : Ending → World → Prop} {t u : Nat} {v x : Value} (h : Has n e a) (hr : fn.results = #[.tmp t, .tmp u]) (hv : lk e t = some v) (hx : lk e u = some x) (k : Z (.returned (.tuple #[v, x])) w) : bodyPost P fn Z .ret a w :=
 ⟨h.defers, _, by rw [results_tmp2 hr, getD_held h hv, getD_held h hx], k⟩
def wpD (P : Program) (R : Array Oper) (Q : Exit → Act → World → Prop) (m : Nat) (F : World → Prop) : Nat → Array Bool → Act → World → Prop
  | 0, l, a, w => Region.ready .any R l = [] ∧ Q .normal a w
  | k + 1, l, a, w => (Region.ready .any R l = [] → Q .normal a w) ∧
    ∀ i ∈ Region.ready .any R l, wpOp P R Q i (fun a' w' => ((l.setIfInBounds i true).getD m false = true ∨ F w') ∧ wpD P R Q m F k (l.setIfInBounds i true) a' w') a w
theorem wpD_any {m : Nat} {F : World → Prop} : ∀ (k : Nat) (l : Array Bool) (a : Act) (w : World), wpD P R Q m F k l a w → wpAny P .any R Q k l a w
 | 0, _, _, _, h => h
 | k + 1, _, _, _, h => ⟨h.1, fun i hi => wpOp_mono (fun a' w' h' => wpD_any k _ a' w' h'.2) (h.2 i hi)⟩
def waits (R : Array Oper) (m i : Nat) : Bool := match R[m]? with
 | some o => o.after.any fun e => Region.binds .any e && e.on == i
 | none => true
theorem wpD_first {m : Nat} {F : World → Prop} {i : Nat} {oi : Oper} {v : Value} (hi : R[i]? = some oi) (hsel : ∀ (j : Nat) (o : Oper) cs b, R[j]? = some o → o.op ≠ .select cs b)
    (hQ : ∀ c a w, Q (.panic c) (a.put oi.dst v) w → Q (.panic c) a w) (hm : waits R m i = true) :
    ∀ (k : Nat) (l : Array Bool) (a : Act) (w : World), l.getD m false = false →
      (∀ j oj, R[j]? = some oj → j ≠ i → l.getD j true = false → (∀ e ∈ oj.after, Region.binds .any e = true → e.on ≠ i) → oi.apart R oj = true) →
      i ∈ Region.ready .any R l → i ≠ m → YieldsIf P R F oi v a → F w →
      wpD P R Q m F k (l.setIfInBounds i true) (a.put oi.dst v) w → wpD P R Q m F (k + 1) l a w := by
  intro k
  induction k with
  | zero =>
    intro l a w _ _ hr him hy hF H;refine ⟨fun h => (by rw [h] at hr; cases hr), fun j hj => ?_⟩
    by_cases hji : j = i
    · subst hji; exact hy.wpOp hi hF ⟨.inr hF, H⟩
    · have := ready_mono hj hji
      rw [H.1] at this;cases this
  | succ k ih =>
    intro l a w hlm hfree hr him hy hF H;refine ⟨fun h => (by rw [h] at hr; cases hr), fun j hj => ?_⟩
    by_cases hji : j = i
    · subst hji; exact hy.wpOp hi hF ⟨.inr hF, H⟩
    · have h1 := H.2 j (ready_mono hj hji)
      obtain ⟨hjun, oj, hoj, hall⟩ := mem_ready.1 hj
      have hnot : ∀ e ∈ oj.after, Region.binds .any e = true → e.on ≠ i := fun e he hb heq => by
        have h1 := hall e he hb;have h0 := (mem_ready.1 hr).1;rw [heq] at h1
        rcases Nat.lt_or_ge i l.size with h' | h'
        · simp [h'] at h0 h1; rw [h0] at h1; cases h1
        · simp [Array.getElem?_eq_none h'] at h1
      have hjm : j ≠ m := by
        intro hjm;subst hjm;simp only [waits, hoj] at hm;obtain ⟨e, he, hb⟩ := Array.any_eq_true'.1 hm;simp only [Bool.and_eq_true, beq_iff_eq] at hb;exact hnot e he hb.1 hb.2
      have h2 := wpOp_putIf hoj (hfree j oj hoj hji hjun hnot) (fun cs b => hsel i oi cs b hi) (fun cs b => hsel j oj cs b hoj) hQ hy h1
      have hfree' : ∀ k ok, R[k]? = some ok → k ≠ i → (l.setIfInBounds j true).getD k true = false →
          (∀ e ∈ ok.after, Region.binds .any e = true → e.on ≠ i) → oi.apart R ok = true := fun k ok hk hki hun hno => by
        refine hfree k ok hk hki ?_ hno
        by_cases hjk : j = k
        · subst hjk; exact hjun
        · rw [getD_set_ne true hjk] at hun; exact hun
      have hlm' : (l.setIfInBounds j true).getD m false = false := by rw [getD_set_ne false hjm]; exact hlm
      have notm : ∀ l' : Array Bool, l'.getD m false = false → l'.getD m false = true → False := fun l' h0 h1 => by rw [h0] at h1; cases h1
      refine wpOp_mono (fun a' w' h3 => ?_) h2
      have hF' : F w' := by
        rcases h3.2.1 with h4 | h4
        · exfalso
          refine notm ((l.setIfInBounds i true).setIfInBounds j true) ?_ h4;rw [getD_set_ne false hjm, getD_set_ne false him];exact hlm
        · exact h4
      refine ⟨.inr hF', ih (l.setIfInBounds j true) a' w' hlm' hfree' (ready_mono hr (Ne.symm hji)) him h3.1 hF' ?_⟩;rw [Array.setIfInBounds_comm _ _ hji];exact h3.2.2
theorem wpD_firstP {m : Nat} {F : World → Prop} {i : Nat} {oi : Oper} {v : Value} (hi : R[i]? = some oi) (hsel : ∀ (j : Nat) (o : Oper) cs b, R[j]? = some o → o.op ≠ .select cs b)
    (hQ : ∀ c a w, Q (.panic c) (a.put oi.dst v) w → Q (.panic c) a w) :
    ∀ (k : Nat) (l : Array Bool) (a : Act) (w : World),
      (∀ j oj, R[j]? = some oj → j ≠ i → l.getD j true = false → (∀ e ∈ oj.after, Region.binds .any e = true → e.on ≠ i) → oi.apart R oj = true) →
      i ∈ Region.ready .any R l → i ≠ m → YieldsIf P R (fun _ => True) oi v a → (l.getD m false = true ∨ F w) →
      wpD P R Q m F k (l.setIfInBounds i true) (a.put oi.dst v) w → wpD P R Q m F (k + 1) l a w := by
  have keepm : ∀ (l : Array Bool) (i m : Nat), i ≠ m → (l.setIfInBounds i true).getD m false = l.getD m false := fun l i m h => getD_set_ne false h
  intro k
  induction k with
  | zero =>
    intro l a w _ hr him hy hF H;refine ⟨fun h => (by rw [h] at hr; cases hr), fun j hj => ?_⟩
    by_cases hji : j = i
    · subst hji; exact hy.wpOp hi trivial ⟨by rw [keepm l j m him]; exact hF, H⟩
    · have := ready_mono hj hji
      rw [H.1] at this;cases this
  | succ k ih =>
    intro l a w hfree hr him hy hF H;refine ⟨fun h => (by rw [h] at hr; cases hr), fun j hj => ?_⟩
    by_cases hji : j = i
    · subst hji; exact hy.wpOp hi trivial ⟨by rw [keepm l j m him]; exact hF, H⟩
    · have h1 := H.2 j (ready_mono hj hji)
      obtain ⟨hjun, oj, hoj, hall⟩ := mem_ready.1 hj
      have hnot : ∀ e ∈ oj.after, Region.binds .any e = true → e.on ≠ i := fun e he hb heq => by
        have h1 := hall e he hb;have h0 := (mem_ready.1 hr).1;rw [heq] at h1
        rcases Nat.lt_or_ge i l.size with h' | h'
        · simp [h'] at h0 h1; rw [h0] at h1; cases h1
        · simp [Array.getElem?_eq_none h'] at h1
      have h2 := wpOp_putIf hoj (hfree j oj hoj hji hjun hnot) (fun cs b => hsel i oi cs b hi) (fun cs b => hsel j oj cs b hoj) hQ hy h1
      have hfree' : ∀ k ok, R[k]? = some ok → k ≠ i → (l.setIfInBounds j true).getD k true = false →
          (∀ e ∈ ok.after, Region.binds .any e = true → e.on ≠ i) → oi.apart R ok = true := fun k ok hk hki hun hno => by
        refine hfree k ok hk hki ?_ hno
        by_cases hjk : j = k
        · subst hjk; exact hjun
        · rw [getD_set_ne true hjk] at hun; exact hun
      refine wpOp_mono (fun a' w' h3 => ?_) h2
      have hF' : (l.setIfInBounds j true).getD m false = true ∨ F w' := by
        have h4 := h3.2.1;rw [Array.setIfInBounds_comm _ _ (Ne.symm hji), keepm _ i m him] at h4;exact h4
      refine ⟨hF', ih (l.setIfInBounds j true) a' w' hfree' (ready_mono hr (Ne.symm hji)) him h3.1 hF' ?_⟩;rw [Array.setIfInBounds_comm _ _ hji];exact h3.2.2
theorem d_pure {m : Nat} {F : World → Prop} {i d : Nat} {v : Value} {k : Nat} {l : Array Bool} (h : Has n e a) (hd : d < n) (y : Val P R i a (fun _ => True) d v) (hF : l.getD m false = true ∨ F w)
    (hs : Region.noSelect R = true) (hf : (Region.free .any R l i && (Region.ready .any R l).contains i && !(Nat.beq i m)) = true)
    (hQ : PutOK Q)
    (kk : ∀ a', Has n ((d, v) :: e) a' → wpD P R Q m F k (l.setIfInBounds i true) a' w) : wpD P R Q m F (k + 1) l a w := by
  obtain ⟨o, h1, h2, h3⟩ := y.out
  simp only [Bool.and_eq_true, Bool.not_eq_true'] at hf
  obtain ⟨⟨hf1, hf2⟩, hf4⟩ := hf
  have him : i ≠ m := fun e => by subst e; simp at hf4
  exact wpD_firstP h1 (Region.noSelect_spec hs) (fun c a' w' hq => hQ c _ _ a' w' hq) k l a w (Region.free_spec h1 hf1) (by simpa using hf2) him h3 hF
    (by rw [h2]; exact kk _ (h.put d v hd))
theorem d_val {m : Nat} {F : World → Prop} {i d : Nat} {v : Value} {k : Nat} {l : Array Bool} (h : Has n e a) (hd : d < n) (y : Val P R i a F d v) (hF : F w)
    (hs : Region.noSelect R = true) (hf : (Region.free .any R l i && (Region.ready .any R l).contains i && waits R m i && !(Nat.beq i m) && !(l.getD m false)) = true)
    (hQ : PutOK Q)
    (kk : ∀ a', Has n ((d, v) :: e) a' → wpD P R Q m F k (l.setIfInBounds i true) a' w) : wpD P R Q m F (k + 1) l a w := by
  obtain ⟨o, h1, h2, h3⟩ := y.out
  simp only [Bool.and_eq_true, Bool.not_eq_true'] at hf
  obtain ⟨⟨⟨⟨hf1, hf2⟩, hf3⟩, hf4⟩, hf5⟩ := hf
  have him : i ≠ m := fun e => by subst e; simp at hf4
  exact wpD_first h1 (Region.noSelect_spec hs) (fun c a' w' hq => hQ c _ _ a' w' hq) hf3 k l a w hf5 (Region.free_spec h1 hf1) (by simpa using hf2) him h3 hF
    (by rw [h2]; exact kk _ (h.put d v hd))
theorem d_all {m : Nat} {F : World → Prop} {rs : List Nat} {k : Nat} {l : Array Bool} (hr : Region.ready .any R l = rs) (hne : rs ≠ [])
  (h : ∀ i ∈ rs, wpOp P R Q i (fun a' w' => ((l.setIfInBounds i true).getD m false = true ∨ F w') ∧ wpD P R Q m F k (l.setIfInBounds i true) a' w') a w) : wpD P R Q m F (k + 1) l a w :=
 ⟨fun h0 => absurd (hr ▸ h0) hne, hr ▸ h⟩
theorem d_one {m : Nat} {F : World → Prop} {i : Nat} {k : Nat} {l : Array Bool} (hr : Region.ready .any R l = [i])
  (h : wpOp P R Q i (fun a' w' => ((l.setIfInBounds i true).getD m false = true ∨ F w') ∧ wpD P R Q m F k (l.setIfInBounds i true) a' w') a w) : wpD P R Q m F (k + 1) l a w :=
 d_all hr (by simp) (by simpa using h)
theorem d_end {m : Nat} {F : World → Prop} {l : Array Bool} (hr : Region.ready .any R l = []) (h : Q .normal a w) : ∀ k, wpD P R Q m F k l a w
 | 0 => ⟨hr, h⟩
 | _ + 1 => ⟨fun _ => h, by rw [hr]; simp⟩
theorem d_begin {id m : Nat} {F : World → Prop} (hm : P.follows .mixedOrders = true) (h : wpD P R Q m F R.size (Array.replicate R.size false) a w.drew) : (Code.region id R true).wp P Q a w :=
 wp_region_any hm (wpD_any _ _ _ _ h)
theorem p_begin {id : Nat} (h : wpOps P R Q (List.range R.size) a w) : (Code.region id R false).wp P Q a w := wp_region h
end
structure Asn where
 says : World → (Nat → Prop) → Prop
 lt : ∀ w F, says w F → ∀ b, F b → b < w.heap.size
 loc : ∀ w w' F, w.heap.size ≤ w'.heap.size → says w F → (∀ b, F b → w'.heap[b]? = w.heap[b]?) → says w' F
theorem lt_of_get {w w' : World} {b : Nat} (h : w'.heap[b]? = w.heap[b]?) (hb : b < w.heap.size) : b < w'.heap.size := by
 have : w'.heap[b]? ≠ none := by rw [h]; simpa using hb
 exact Nat.lt_of_not_le fun hle => this (by simpa using hle)
def blk (b : Nat) (cs : List Value) (T : TypeId) : Asn where
 says w F := (∀ k, F k ↔ k = b) ∧ w.heap[b]? = some (.cells cs.toArray T (0, 0))
 lt w F h k hk := by
  have := (h.1 k).1 hk
  subst this
  exact (Array.getElem?_eq_some_iff.1 h.2).1
 loc w w' F hz h hk := ⟨h.1, by rw [hk b ((h.1 b).2 rfl)]; exact h.2⟩
def obj (b : Nat) (o : Obj) : Asn where
 says w F := (∀ k, F k ↔ k = b) ∧ w.heap[b]? = some o
 lt w F h k hk := by
  have := (h.1 k).1 hk
  subst this
  exact (Array.getElem?_eq_some_iff.1 h.2).1
 loc w w' F hz h hk := ⟨h.1, by rw [hk b ((h.1 b).2 rfl)]; exact h.2⟩
def row (v : Value) (T : TypeId) (sz : Nat) (xs : List Value) : Asn where
 says w F := (∀ k, F k ↔ v.ownBlock = some k) ∧ ∃ n, w.ownsRow 0 T sz v n xs
 lt w F h k hk := by
  obtain ⟨n, h2⟩ := h.2
  exact (h2.lt k ((h.1 k).1 hk)).2
 loc w w' F hz h hk := by
  obtain ⟨h1, n, h2, h3⟩ := h
  refine ⟨h1, n, h2, ?_⟩
  rcases h3 with h3 | ⟨g, cap, cur, rfl, hb, hg, rest⟩
  · exact .inl h3
  · exact .inr ⟨g, cap, cur, rfl, hb, by rw [hk g ((h1 g).2 rfl)]; exact hg, rest⟩
def star (A B : Asn) : Asn where
 says w F := ∃ G H, (∀ k, F k ↔ G k ∨ H k) ∧ (∀ k, G k → ¬ H k) ∧ A.says w G ∧ B.says w H
 lt w F h k hk := by
  obtain ⟨G, H, h1, _, h3, h4⟩ := h
  rcases (h1 k).1 hk with h | h
  · exact A.lt w G h3 k h
  · exact B.lt w H h4 k h
 loc w w' F hz h hk := by
  obtain ⟨G, H, h1, h2, h3, h4⟩ := h
  exact ⟨G, H, h1, h2, A.loc w w' G hz h3 fun b hb => hk b ((h1 b).2 (.inl hb)), B.loc w w' H hz h4 fun b hb => hk b ((h1 b).2 (.inr hb))⟩
def exA {α : Type} (R : α → Asn) : Asn where
 says w F := ∃ x, (R x).says w F
 lt w F h k hk := let ⟨x, hx⟩ := h; (R x).lt w F hx k hk
 loc w w' F hz h hk := let ⟨x, hx⟩ := h; ⟨x, (R x).loc w w' F hz hx hk⟩
def fact (p : Prop) : Asn where
 says _ F := p ∧ ∀ k, ¬ F k
 lt _ _ h k hk := absurd hk (h.2 k)
 loc _ _ _ _ h _ := h
structure Sat (w0 w : World) (Rs : List Asn) : Prop where
 below : Below w0.heap.size w0 w
 pieces : ∃ F : Nat → Nat → Prop, (∀ (i : Nat) (R : Asn), Rs[i]? = some R → R.says w (F i)) ∧ (∀ i j b, F i b → F j b → i = j) ∧ (∀ i b, F i b → w0.heap.size ≤ b ∧ b < w.heap.size)
section
variable {w0 w : World} {Rs : List Asn}
theorem Sat.start (w : World) : Sat w w [] := ⟨Below.refl _ _, fun _ _ => False, fun i R h => by simp at h, fun _ _ _ h => h.elim, fun _ _ h => h.elim⟩
theorem Sat.drew (h : Sat w0 w Rs) : Sat w0 w.drew Rs := by
 obtain ⟨hb, F, h1, h2, h3⟩ := h
 exact ⟨hb.drew, F, fun i R hi => R.loc w w.drew (F i) (Nat.le_refl _) (h1 i R hi) fun _ _ => rfl, h2, h3⟩
theorem Sat.pickR {l : List Asn} (h : Sat w0 w (l ++ Rs)) (is : List Nat) (hn : is.Nodup) (l' : List Asn) (hp : is.mapM (fun i => l[i]?) = some l') : Sat w0 w (l' ++ Rs) := by
  obtain ⟨hb, F, h1, h2, h3⟩ := h
  have hlen : ∀ (is : List Nat) (l' : List Asn), is.mapM (fun i => l[i]?) = some l' → is.length = l'.length ∧ ∀ (i : Nat) (R : Asn), l'[i]? = some R → ∃ j : Nat, is[i]? = some j ∧ l[j]? = some R := by
    intro is
    induction is with
    | nil => intro l' hp; simp at hp; subst hp; simp
    | cons x is ih =>
      intro l' hp;rw [List.mapM_cons] at hp;cases hx : l[x]? with
      | none => simp [hx] at hp
      | some r =>
        cases hr : is.mapM (fun i => l[i]?) with
        | none => simp [hx, hr] at hp
        | some rs =>
          simp [hx, hr] at hp
          subst hp;obtain ⟨g1, g2⟩ := ih rs hr;refine ⟨by simp [g1], fun i R hi => ?_⟩;cases i with
          | zero => simp at hi; subst hi; exact ⟨x, rfl, hx⟩
          | succ i => simpa using g2 i R (by simpa using hi)
  obtain ⟨hl, hget⟩ := hlen is l' hp
  have hat : ∀ i j : Nat, is[i]? = some j → j < l.length := by
    intro i j hij;have hi : i < l'.length := by rw [← hl]; exact (List.getElem?_eq_some_iff.1 hij).1
    obtain ⟨j', e1, e2⟩ := hget i _ (List.getElem?_eq_getElem hi);rw [hij] at e1
    injection e1 with e1
    subst e1;exact (List.getElem?_eq_some_iff.1 e2).1
  let at_ : Nat → Nat := fun i => if i < l'.length then is.getD i 0 else i - l'.length + l.length
  have hat2 : ∀ i, i < l'.length → is[i]? = some (at_ i) := by
    intro i hi;simp only [at_, hi, if_true];rw [List.getD_eq_getElem?_getD, List.getElem?_eq_getElem (by omega)]
    simp
  have hinj : ∀ i j, at_ i = at_ j → i = j := by
    intro i j hij
    by_cases hi : i < l'.length <;> by_cases hj : j < l'.length
    · have e1 := hat2 i hi
      have e2 := hat2 j hj;exact (List.getElem?_inj (by omega) hn).1 (by rw [e1, e2, hij])
    · have := hat _ _ (hat2 i hi)
      simp only [at_, hj, if_false] at hij;simp only [at_] at this
      omega
    · have := hat _ _ (hat2 j hj)
      simp only [at_, hi, if_false] at hij;simp only [at_] at this
      omega
    · simp only [at_, hi, hj, if_false] at hij
      omega
  refine ⟨hb, fun i b => F (at_ i) b, fun i R hi => ?_, fun i j b hi hj => hinj _ _ (h2 _ _ b hi hj), fun i b hi => h3 _ b hi⟩
  by_cases hlt : i < l'.length
  · rw [List.getElem?_append_left hlt] at hi
    obtain ⟨j, e1, e2⟩ := hget i R hi
    have : at_ i = j := by
      have := hat2 i hlt;rw [e1] at this
      injection this with this
      exact this.symm
    show R.says w (F (at_ i))
    rw [this];refine h1 j R ?_;rw [List.getElem?_append_left (List.getElem?_eq_some_iff.1 e2).1];exact e2
  · rw [List.getElem?_append_right (by omega)] at hi
    refine h1 (at_ i) R ?_;simp only [at_, hlt, if_false];rw [List.getElem?_append_right (by omega)]
    simpa using hi
theorem Sat.at_ (h : Sat w0 w Rs) {i : Nat} {R : Asn} (hi : Rs[i]? = some R) : ∃ F, R.says w F ∧ ∀ b, F b → w0.heap.size ≤ b ∧ b < w.heap.size := by
 obtain ⟨_, F, h1, _, h3⟩ := h
 exact ⟨F i, h1 i R hi, h3 i⟩
theorem Sat.blk (h : Sat w0 w Rs) {b : Nat} {cs : List Value} {T : TypeId} (i : Nat) (hi : Rs[i]? = some (blk b cs T)) : w.heap[b]? = some (.cells cs.toArray T (0, 0)) := by
 obtain ⟨F, h1, _⟩ := h.at_ hi
 exact h1.2
theorem Sat.obj (h : Sat w0 w Rs) {b : Nat} {o : Obj} (i : Nat) (hi : Rs[i]? = some (obj b o)) : w.heap[b]? = some o := by
 obtain ⟨F, h1, _⟩ := h.at_ hi
 exact h1.2
theorem Sat.row (h : Sat w0 w Rs) {v : Value} {T : TypeId} {sz : Nat} {xs : List Value} (i : Nat) (hi : Rs[i]? = some (row v T sz xs)) : ∃ n, w.ownsRow 0 T sz v n xs := by
 obtain ⟨F, h1, _⟩ := h.at_ hi
 exact h1.2
theorem Sat.upd (h : Sat w0 w Rs) {w' : World} {i : Nat} {R : Asn} (hi : Rs[i]? = some R) (R' : Asn)
    (hos : w'.os = w.os) (htape : w'.tape = w.tape) (hout : w'.output = w.output) (hsize : w.heap.size ≤ w'.heap.size)
    (hc : ∀ F, R.says w F → ∃ F', R'.says w' F' ∧ (∀ b, F' b → F b ∨ w.heap.size ≤ b) ∧ ∀ b, b < w.heap.size → ¬ F b → w'.heap[b]? = w.heap[b]?) : Sat w0 w' (Rs.set i R') := by
  obtain ⟨hb, F, h1, h2, h3⟩ := h
  obtain ⟨F', hR', hF', hrest⟩ := hc (F i) (h1 i R hi)
  have hs0 : w0.heap.size ≤ w.heap.size := hb.size
  refine ⟨hb.trans ⟨hos, htape, hout, hsize, fun k hk => hrest k (by omega) fun hk' => by have := (h3 i k hk').1; omega⟩,
    fun j b => if j = i then F' b else F j b, fun j S hj => ?_, fun j j' b hj hj' => ?_, fun j b hj => ?_⟩
  · by_cases e : j = i
    · subst e
      have hlt : j < Rs.length := (List.getElem?_eq_some_iff.1 hi).1;rw [List.getElem?_set_self hlt] at hj
      injection hj with hj
      subst hj
      simpa using hR'
    · rw [List.getElem?_set_ne (Ne.symm e)] at hj
      simp only [e, if_false];refine S.loc w w' (F j) hsize (h1 j S hj) fun b hb => hrest b (h3 j b hb).2 fun hb' => e (h2 j i b hb hb')
  · dsimp only at hj hj'
    split at hj <;> split at hj'
    · omega
    · rename_i e e'
      rcases hF' b hj with h | h
      · have := h2 i j' b h hj'; omega
      · have := (h3 j' b hj').2; omega
    · rename_i e e'
      rcases hF' b hj' with h | h
      · have := h2 j i b hj h; omega
      · have := (h3 j b hj).2; omega
    · exact h2 j j' b hj hj'
  · dsimp only at hj
    split at hj
    · have hlt := R'.lt w' F' hR' b hj
      rcases hF' b hj with h | h
      · exact ⟨(h3 i b h).1, hlt⟩
      · exact ⟨by omega, hlt⟩
    · have := h3 j b hj; omega
theorem Sat.new (h : Sat w0 w Rs) {w' : World} (R' : Asn) (hos : w'.os = w.os) (htape : w'.tape = w.tape) (hout : w'.output = w.output) (hsize : w.heap.size ≤ w'.heap.size)
    (hold : ∀ b, b < w.heap.size → w'.heap[b]? = w.heap[b]?) (hc : ∃ F', R'.says w' F' ∧ ∀ b, F' b → w.heap.size ≤ b) : Sat w0 w' (R' :: Rs) := by
  obtain ⟨hb, F, h1, h2, h3⟩ := h
  obtain ⟨F', hR', hF'⟩ := hc
  have hs0 : w0.heap.size ≤ w.heap.size := hb.size
  refine ⟨hb.trans ⟨hos, htape, hout, hsize, fun k hk => hold k (by omega)⟩, fun j b => match j with | 0 => F' b | j + 1 => F j b, fun j S hj => ?_, fun j j' b hj hj' => ?_, fun j b hj => ?_⟩
  · cases j with
    | zero => simp at hj; subst hj; exact hR'
    | succ j => exact S.loc w w' (F j) hsize (h1 j S (by simpa using hj)) fun b hb => hold b (h3 j b hb).2
  · cases j <;> cases j'
    · rfl
    · exfalso
      have := hF' b hj; have := (h3 _ b hj').2; omega
    · exfalso
      have := hF' b hj'; have := (h3 _ b hj).2; omega
    · exact congrArg _ (h2 _ _ b hj hj')
  · cases j with
    | zero => exact ⟨by have := hF' b hj; omega, R'.lt w' F' hR' b hj⟩
    | succ j => have := h3 j b hj; exact ⟨this.1, by omega⟩
theorem Sat.allocO (h : Sat w0 w Rs) (o : Obj) : Sat w0 (w.alloc o) (SX.obj w.heap.size o :: Rs) :=
 h.new _ rfl rfl rfl (by simp) (fun b hb => heap_alloc_old w o hb) ⟨fun k => k = w.heap.size, ⟨fun _ => Iff.rfl, heap_alloc_new w o⟩, fun b hb => by omega⟩
theorem Sat.alloc (h : Sat w0 w Rs) (cs : List Value) (T : TypeId) : Sat w0 (w.alloc (.cells cs.toArray T)) (SX.blk w.heap.size cs T :: Rs) :=
 h.new _ rfl rfl rfl (by simp) (fun b hb => heap_alloc_old w _ hb) ⟨fun k => k = w.heap.size, ⟨fun _ => Iff.rfl, heap_alloc_new w _⟩, fun b hb => by omega⟩
theorem Sat.setCell (h : Sat w0 w Rs) {b : Nat} {cs : List Value} {T : TypeId} (i : Nat) (hi : Rs[i]? = some (SX.blk b cs T)) (j : Nat) (v : Value) :
    Sat w0 (w.setCell ⟨b, j, none⟩ v) (Rs.set i (SX.blk b (cs.set j v) T)) := by
  refine h.upd hi _ rfl rfl rfl (by simp) fun F hF => ⟨F, ⟨hF.1, ?_⟩, fun _ hb => .inl hb, fun k _ hF' => ?_⟩
  · have := heap_setCell_same w b j cs.toArray T v hF.2
    simpa using this
  · exact heap_setCell_other w _ k v (fun e => hF' ((hF.1 k).2 e))
theorem Sat.grows (h : Sat w0 w Rs) {w' : World} (hb : Below w.heap.size w w') : Sat w0 w' Rs := by
 obtain ⟨hb0, F, h1, h2, h3⟩ := h
 exact ⟨hb0.trans (hb.mono hb0.size), F, fun i R hi => R.loc w w' (F i) hb.size (h1 i R hi) fun b hF => hb.block b (h3 i b hF).2, h2, fun i b hF => ⟨(h3 i b hF).1, Nat.lt_of_lt_of_le (h3 i b hF).2 hb.size⟩⟩
theorem Sat.turn (h : Sat w0 w Rs) {i : Nat} {R : Asn} (hi : Rs[i]? = some R) (R' : Asn) (hc : ∀ F, R.says w F → R'.says w F) : Sat w0 w (Rs.set i R') :=
 h.upd hi R' rfl rfl rfl (Nat.le_refl _) fun F hF => ⟨F, hc F hF, fun _ hb => .inl hb, fun _ _ _ => rfl⟩
theorem Sat.open_ (h : Sat w0 w Rs) {α : Type} {R : α → Asn} (i : Nat) (hi : Rs[i]? = some (exA R)) : ∃ x, Sat w0 w (Rs.set i (R x)) := by
  obtain ⟨F, ⟨x, _⟩, _⟩ := h.at_ hi
  obtain ⟨hb, G, h1, h2, h3⟩ := h
  obtain ⟨x, hx⟩ := h1 i _ hi
  refine ⟨x, hb, G, fun j S hj => ?_, h2, h3⟩
  by_cases e : i = j
  · subst e
    rw [List.getElem?_set_self (List.getElem?_eq_some_iff.1 hi).1] at hj
    injection hj with hj
    subst hj;exact hx
  · rw [List.getElem?_set_ne e] at hj
    exact h1 j S hj
theorem Sat.shut (h : Sat w0 w Rs) {α : Type} {R : α → Asn} (x : α) (i : Nat) (hi : Rs[i]? = some (R x)) : Sat w0 w (Rs.set i (exA R)) := h.turn hi _ fun _ hF => ⟨x, hF⟩
theorem Sat.fact_ (h : Sat w0 w Rs) {p : Prop} (i : Nat) (hi : Rs[i]? = some (fact p)) : p := by
 obtain ⟨F, h1, _⟩ := h.at_ hi
 exact h1.1
theorem Sat.more (h : Sat w0 w Rs) {p : Prop} (hp : p) : Sat w0 w (SX.fact p :: Rs) :=
 h.new _ rfl rfl rfl (Nat.le_refl _) (fun _ _ => rfl) ⟨fun _ => False, ⟨hp, fun _ h => h⟩, fun _ h => h.elim⟩
theorem Sat.openRow (h : Sat w0 w Rs) {v : Value} {T : TypeId} {sz : Nat} {xs : List Value} (i : Nat) (hi : Rs[i]? = some (SX.row v T sz xs)) (hx : xs ≠ []) :
    ∃ g n cap cur, v = .slice (some ⟨g, 0, none⟩) n cap ∧ xs.length = n * sz ∧ n ≤ cap ∧ cap ≤ maxLen ∧ (xs ++ cur).length = cap * sz ∧ Sat w0 w (Rs.set i (SX.blk g (xs ++ cur) T)) := by
  obtain ⟨n, h1, h2⟩ := h.row i hi
  rcases h2 with ⟨rfl, rfl⟩ | ⟨g, cap, cur, rfl, hb, hg, h3, h4, h5, h6⟩
  · exact absurd (List.eq_nil_of_length_eq_zero (by simpa using h1)) hx
  · have hcur : xs ++ cur.toList.drop (n * sz) = cur.toList := by rw [← h6]; exact List.take_append_drop _ _
    refine ⟨g, n, cap, cur.toList.drop (n * sz), rfl, h1, h3, h4, by rw [hcur]; simpa using h5, h.turn hi _ fun F hF => ⟨fun k => ?_, ?_⟩⟩
    · rw [hF.1 k]
      simp [Value.ownBlock, eq_comm]
    · rw [hcur]
      simpa using hg
theorem Sat.shutRow (h : Sat w0 w Rs) {g n cap : Nat} {T : TypeId} {sz : Nat} {xs cur : List Value} (i : Nat) (hi : Rs[i]? = some (SX.blk g (xs ++ cur) T)) (hn : xs.length = n * sz) (hc : n ≤ cap) (hm : cap ≤ maxLen) (hl : (xs ++ cur).length = cap * sz) :
    Sat w0 w (Rs.set i (SX.row (.slice (some ⟨g, 0, none⟩) n cap) T sz xs)) := by
  refine h.turn hi _ fun F hF => ⟨fun k => ?_, n, hn, .inr ⟨g, cap, (xs ++ cur).toArray, rfl, Nat.zero_le _, hF.2, hc, hm, by simpa using hl, ?_⟩⟩
  · rw [hF.1 k]
    simp [Value.ownBlock, eq_comm]
  · rw [← hn]
    simp
end
def evD (e : Env) (x : Operand) : Value := (ev e x).getD undef
def covers (e : Env) (op : Op) : Bool := op.operands.toList.all fun x => (ev e x).isSome
def notSelect : Op → Bool | .select .. => false | _ => true
def opr (op : Op) (ty : TypeId) : Oper := { dst := none, op := op, type := ty, pos := "", after := #[], guard := none }
section
variable {P : Program} {R : Array Oper} {Q : Exit → Act → World → Prop} {n : Nat} {e : Env} {a : Act} {w w0 : World} {Rs : List Asn}
theorem exec_eq {o : Oper} {op : Op} {ty : TypeId} (h : Has n e a) (h1 : o.op = op) (h2 : o.type = ty) (hc : (covers e op && notSelect op) = true) : execOp a.eval o = execOp (evD e) (opr op ty) := by
 simp only [Bool.and_eq_true] at hc
 obtain ⟨hc1, hc2⟩ := hc
 have hs : ∀ cs b, o.op ≠ .select cs b := by
  intro cs b hh
  rw [h1] at hh
  subst hh
  simp [notSelect] at hc2
 have he : ∀ x ∈ o.op.operands, a.eval x = evD e x := by
  intro x hx
  rw [h1] at hx
  have := List.all_eq_true.1 hc1 x (by simpa using hx)
  obtain ⟨v, hv⟩ := Option.isSome_iff_exists.1 this
  rw [h.ev hv]
  simp [evD, hv]
 rw [execOp_congr o hs he]
 obtain ⟨d, op', ty', pos, af, g⟩ := o
 simp only at h1 h2
 subst h1 h2
 rfl
theorem qZ {S : World → Prop} {i d : Nat} {op : Op} {ty : TypeId} {v : Value} (h : Has n e a) (ho : AtW R i op (some d) ty a) (hc : (covers e op && notSelect op) = true)
  (hr : ∀ w, (execOp (evD e) (opr op ty)).run P w = .ok (.value v) w) : Val P R i a S d v :=
 Val.of_run ho fun o w h1 h2 _ => by rw [exec_eq h h1 h2 hc]; exact hr w
theorem Val.as {S : World → Prop} {i d : Nat} {v v' : Value} (y : Val P R i a S d v) (hv : v = v') : Val P R i a S d v' := hv ▸ y
def isCell (P : Program) (t : TypeId) : Bool := match P.underlying t with
 | some (.struct _) => false
 | some (.array ..) => false
 | some _ => true
 | none => false
theorem run_loadVar_cell {t : TypeId} {p : Addr} {v : Value} (ht : isCell P t = true) (hc : w.cell? p = some v) : (loadVar t p).run P w = .ok v w := by
 unfold isCell at ht
 unfold loadVar isAgg underlying
 cases hu : P.underlying t with
 | none => simp [hu] at ht
 | some d =>
  simp only [hu] at ht
  cases d <;> first | (simp at ht; done) | simp [hu, hc]
theorem run_load {t : TypeId} {x : Operand} {ty : TypeId} {p : Addr} {v : Value} {ρ : Operand → Value} (hx : ρ x = .pointer (some p)) (ht : isCell P t = true) (hc : w.cell? p = some v) : (execOp ρ (opr (.load t x) ty)).run P w = .ok (.value v) w := by
 have h1 := run_loadVar_cell (P := P) (w := w) ht hc
 simp [execOp, opr, Instr.loadAt, Instr.sureAddr, hx, h1]
theorem cell_blk {b j : Nat} {cs : List Value} {T : TypeId} {v : Value} (h : w.heap[b]? = some (.cells cs.toArray T (0, 0))) (hj : cs[j]? = some v) : w.cell? ⟨b, j, none⟩ = some v := by
 rw [cell_of_row w b j _ T (0, 0) h]
 simpa using hj
theorem v_load {S : World → Prop} {i d : Nat} {t : TypeId} {x : Operand} {ty : TypeId} {b j : Nat} {cs : List Value} {T : TypeId} {v : Value} (h : Has n e a) (ho : AtW R i (.load t x) (some d) ty a) (hx : ev e x = some (.pointer (some ⟨b, j, none⟩)))
  (ht : isCell P t = true) (hb : ∀ w, S w → w.heap[b]? = some (.cells cs.toArray T (0, 0))) (hj : cs[j]? = some v) : Val P R i a S d v :=
 Val.of_run ho fun o w h1 h2 hS => by
  rw [exec_eq h h1 h2 (by simp [covers, Op.operands, hx, notSelect])]
  exact run_load (by simp [evD, hx]) ht (cell_blk (hb w hS) hj)
theorem zK {S : World → Prop} {i d : Nat} {t : TypeId} {x : Operand} {ty : TypeId} {p : Addr} {v : Value} (h : Has n e a) (ho : AtW R i (.load t x) (some d) ty a) (hx : ev e x = some (.pointer (some p)))
  (ht : isCell P t = true) (hb : ∀ w, S w → w.cell? p = some v) : Val P R i a S d v :=
 Val.of_run ho fun o w h1 h2 hS => by
  rw [exec_eq h h1 h2 (by simp [covers, Op.operands, hx, notSelect])]
  exact run_load (by simp [evD, hx]) ht (hb w hS)
def aggSize (P : Program) (t : TypeId) : Option Nat := match P.underlying t with
 | some (.struct _) => (P.info? t).map (·.size)
 | some (.array ..) => (P.info? t).map (·.size)
 | _ => none
theorem run_loadCellsFrom {p : Addr} : ∀ (vs : List Value) (j : Nat) (acc : Array Value), (∀ i u, vs[i]? = some u → w.cell? (p.add (j + i)) = some u) →
  (loadCellsFrom p j vs.length acc).run P w = .ok (acc ++ vs.toArray) w := by
 intro vs
 induction vs with
 | nil => intro j acc _; simp [loadCellsFrom]
 | cons v vs ih =>
  intro j acc h
  have h0 := h 0 v rfl
  simp only [Nat.add_zero] at h0
  have := ih (j + 1) (acc.push v) (fun i u hu => by rw [show j + 1 + i = j + (i + 1) from by omega]; exact h (i + 1) u (by simpa using hu))
  simp [loadCellsFrom, h0, this]
theorem run_loadVar_agg {t : TypeId} {p : Addr} {vs : List Value} (ht : aggSize P t = some vs.length) (hc : ∀ i u, vs[i]? = some u → w.cell? (p.add i) = some u) : (loadVar t p).run P w = .ok (.agg vs.toArray) w := by
 unfold aggSize at ht
 have hl := run_loadCellsFrom (P := P) (w := w) (p := p) vs 0 #[] (by simpa using hc)
 unfold loadVar isAgg underlying
 cases hu : P.underlying t with
 | none => simp [hu] at ht
 | some d =>
  simp only [hu] at ht
  cases hi : P.info? t with
  | none => cases d <;> simp [hi] at ht
  | some ti =>
   cases d <;> simp [hi] at ht <;> simp [hu, sizeOf, typeInfo, hi, loadCells, ht, hl]
theorem v_loadAgg {S : World → Prop} {i d : Nat} {t : TypeId} {x : Operand} {ty : TypeId} {b j : Nat} {cs vs : List Value} {T : TypeId} (h : Has n e a) (ho : AtW R i (.load t x) (some d) ty a) (hx : ev e x = some (.pointer (some ⟨b, j, none⟩)))
  (ht : aggSize P t = some vs.length) (hb : ∀ w, S w → w.heap[b]? = some (.cells cs.toArray T (0, 0))) (hj : (cs.drop j).take vs.length = vs) : Val P R i a S d (.agg vs.toArray) :=
 Val.of_run ho fun o w h1 h2 hS => by
  rw [exec_eq h h1 h2 (by simp [covers, Op.operands, hx, notSelect])]
  have hr := run_loadVar_agg (P := P) (w := w) (p := ⟨b, j, none⟩) ht (fun i u hu => by
   have e1 : (⟨b, j, none⟩ : Addr).add i = ⟨b, j + i, none⟩ := by unfold Addr.add; split <;> simp_all
   rw [e1];refine cell_blk (hb w hS) ?_;rw [← hj, List.getElem?_take] at hu
   split at hu
   · simpa [List.getElem?_drop] using hu
   · cases hu)
  simp [execOp, opr, Instr.loadAt, Instr.sureAddr, evD, hx, hr]
theorem add0 (b j k : Nat) : (⟨b, j, none⟩ : Addr).add k = ⟨b, j + k, none⟩ := by unfold Addr.add; split <;> simp_all
theorem v_index {S : World → Prop} {i d : Nat} {t el : TypeId} {x ix : Operand} {ty : TypeId} {b off len cap sz : Nat} {k : IntKind} {q : Int} (h : Has n e a) (ho : AtW R i (.indexAddr t x ix) (some d) ty a)
  (hx : ev e x = some (.slice (some ⟨b, off, none⟩) len cap)) (hi : ev e ix = some (.int k q)) (ht : P.underlying t = some (.slice el)) (hs : (P.info? el).map (·.size) = some sz) (h0 : 0 ≤ q) (h1 : q < len) :
  Val P R i a S d (.pointer (some ⟨b, off + q.toNat * sz, none⟩)) :=
 qZ h ho (by simp [covers, Op.operands, hx, hi, notSelect]) fun w => by
  obtain ⟨ti, hti, rfl⟩ := Option.map_eq_some_iff.1 hs
  simp [execOp, opr, Instr.indexAt, evD, hx, hi, asIntOf, underlying, ht, h0, h1, sizeOf, typeInfo, hti, add0]
theorem yV {S : World → Prop} {i d : Nat} {t el : TypeId} {x ix : Operand} {ty : TypeId} {b off len sz : Nat} {k : IntKind} {q : Int} (h : Has n e a) (ho : AtW R i (.indexAddr t x ix) (some d) ty a)
  (hx : ev e x = some (.pointer (some ⟨b, off, none⟩))) (hi : ev e ix = some (.int k q)) (ht : P.underlying t = some (.array len el)) (hs : (P.info? el).map (·.size) = some sz) (h0 : 0 ≤ q) (h1 : q < len) :
  Val P R i a S d (.pointer (some ⟨b, off + q.toNat * sz, none⟩)) :=
 qZ h ho (by simp [covers, Op.operands, hx, hi, notSelect]) fun w => by
  obtain ⟨ti, hti, rfl⟩ := Option.map_eq_some_iff.1 hs
  simp [execOp, opr, Instr.indexAt, evD, hx, hi, asIntOf, underlying, ht, h0, h1, sizeOf, typeInfo, hti, add0, Instr.sureAddr]
theorem o_val {i d : Nat} {op : Op} {ty : TypeId} {v : Value} {w' : World} {K : Act → World → Prop} (h : Has n e a) (hd : d < n) (ho : AtW R i op (some d) ty a) (hc : (covers e op && notSelect op) = true)
  (hr : (execOp (evD e) (opr op ty)).run P w = .ok (.value v) w') (k : ∀ a', Has n ((d, v) :: e) a' → K a' w') : wpOp P R Q i K a w := by
 obtain ⟨o, h1, h2, h3, h4, h5⟩ := ho
 unfold wpOp
 rw [h1]
 simp only [h5, if_true]
 left
 unfold Oper.wp
 rw [exec_eq h h2 h4 hc, hr]
 simp only [Oper.upon, h3]
 exact k _ (h.put d v hd)
theorem o_skip {i : Nat} {op : Op} {ty : TypeId} {w' : World} {K : Act → World → Prop} (h : Has n e a) (ho : AtW R i op none ty a) (hc : (covers e op && notSelect op) = true)
  (hr : (execOp (evD e) (opr op ty)).run P w = .ok .skip w') (k : ∀ a', Has n e a' → K a' w') : wpOp P R Q i K a w := by
 obtain ⟨o, h1, h2, h3, h4, h5⟩ := ho
 unfold wpOp
 rw [h1]
 simp only [h5, if_true]
 left
 unfold Oper.wp
 rw [exec_eq h h2 h4 hc, hr]
 simp only [Oper.upon, h3, Act.put]
 exact k _ h
theorem o_new {i d : Nat} {op : Op} {ty : TypeId} {cs : List Value} {T : TypeId} {K : Act → World → Prop} (f : Nat → Value) (h : Has n e a) (hd : d < n) (ho : AtW R i op (some d) ty a) (hc : (covers e op && notSelect op) = true)
  (hS : Sat w0 w Rs) (hr : ∀ w, (execOp (evD e) (opr op ty)).run P w = .ok (.value (f w.heap.size)) (w.alloc (.cells cs.toArray T)))
  (k : ∀ b w' a', w0.heap.size ≤ b → Sat w0 w' (SX.blk b cs T :: Rs) → Has n ((d, f b) :: e) a' → K a' w') : wpOp P R Q i K a w :=
 o_val h hd ho hc (hr w) fun a' ha => k w.heap.size _ a' hS.below.size (hS.alloc cs T) ha
theorem o_store {i : Nat} {t : TypeId} {x y : Operand} {ty : TypeId} {b j : Nat} {cs cs' : List Value} {T : TypeId} {v : Value} {K : Act → World → Prop} (p : Nat) (h : Has n e a) (ho : AtW R i (.store t x y) none ty a)
  (hx : ev e x = some (.pointer (some ⟨b, j, none⟩))) (hy : ev e y = some v) (h1 : v.oneCell' = true) (ht : (P.info? t).map (·.size) = some 1) (hS : Sat w0 w Rs) (hp : Rs[p]? = some (SX.blk b cs T)) (hj : j < cs.length) (hcs : cs.set j v = cs')
  (k : ∀ w' a', Sat w0 w' (Rs.set p (SX.blk b cs' T)) → Has n e a' → K a' w') : wpOp P R Q i K a w := by
 have hb := hS.blk p hp
 have hcell : w.cell? ⟨b, j, none⟩ = some cs[j] := cell_blk hb (List.getElem?_eq_getElem hj)
 have hfr : w.frozen? ⟨b, j, none⟩ = false := frozen_of_row w b j _ T hb
 have hr : (execOp (evD e) (opr (.store t x y) ty)).run P w = .ok .skip (w.setCell ⟨b, j, none⟩ v) := by
  obtain ⟨ti, hti, hsz⟩ := Option.map_eq_some_iff.1 ht
  have hvc : v.cells = #[v] := by cases v <;> simp [Value.oneCell'] at h1 <;> rfl
  have hst := run_store P w ⟨b, j, none⟩ v .plain h1
  simp [execOp, opr, Instr.storeAt, Instr.sureAddr, evD, hx, hy, storeVar, sizeOf, typeInfo, hti, hsz, hvc, storeCells, add0, hst, hcell, hfr]
 refine o_skip h ho (by simp [covers, Op.operands, hx, hy, notSelect]) hr fun a' ha => k _ a' ?_ ha
 have := hS.setCell p hp j v
 rwa [hcs] at this
theorem run_storeCells_blk {T : TypeId} {b : Nat} : ∀ (vs : List Value) (j o : Nat) (w : World) (cs : List Value), w.heap[b]? = some (.cells cs.toArray T (0, 0)) → j + o + vs.length ≤ cs.length → (∀ v ∈ vs, v.oneCell' = true) →
    ∃ w', (storeCells ⟨b, j, none⟩ vs o).run P w = .ok () w' ∧ w'.heap[b]? = some (.cells (cs.take (j + o) ++ vs ++ cs.drop (j + o + vs.length)).toArray T (0, 0)) ∧ w'.os = w.os ∧ w'.tape = w.tape ∧ w'.output = w.output ∧ w'.heap.size = w.heap.size ∧
      ∀ k, k ≠ b → w'.heap[k]? = w.heap[k]? := by
  intro vs
  induction vs with
  | nil => intro j o w cs hb _ _; exact ⟨w, by simp [storeCells], by simpa using hb, rfl, rfl, rfl, rfl, fun _ _ => rfl⟩
  | cons v vs ih =>
    intro j o w cs hb hl h1;simp only [List.length_cons] at hl;have hcell : w.cell? ⟨b, j + o, none⟩ = some cs[j + o] := cell_blk hb (List.getElem?_eq_getElem (by omega));have hfr : w.frozen? ⟨b, j + o, none⟩ = false := frozen_of_row w b (j + o) _ T hb;have hst := run_store P w ⟨b, j + o, none⟩ v .plain (h1 v (by simp))
    have hb' : (w.setCell ⟨b, j + o, none⟩ v).heap[b]? = some (.cells (cs.set (j + o) v).toArray T (0, 0)) := by
      have := heap_setCell_same w b (j + o) cs.toArray T v hb
      simpa using this
    obtain ⟨w', hr, h2, h3, h4, h5, h6, h7⟩ := ih j (o + 1) (w.setCell ⟨b, j + o, none⟩ v) (cs.set (j + o) v) hb' (by simp; omega) (fun u hu => h1 u (by simp [hu]));refine ⟨w', by simp [storeCells, add0, hst, hcell, hfr, hr], ?_, h3, h4, h5, by simpa using h6, fun k hk => (h7 k hk).trans (heap_setCell_other w _ k v hk)⟩;rw [h2]
    congr 3
    have e1 : (cs.set (j + o) v).take (j + (o + 1)) = cs.take (j + o) ++ [v] := by
      rw [show j + (o + 1) = j + o + 1 from by omega, List.take_succ_eq_append_getElem (by simp; omega), List.take_set, List.set_eq_of_length_le (by rw [List.length_take]; omega), List.getElem_set_self]
    have e2 : (cs.set (j + o) v).drop (j + (o + 1) + vs.length) = cs.drop (j + o + (vs.length + 1)) := by
      rw [List.drop_set]
      split
      · congr 1; omega
      · omega
    rw [e1, e2]
    simp
theorem kH {i : Nat} {t : TypeId} {x y : Operand} {ty : TypeId} {b j : Nat} {cs cs' vs : List Value} {T : TypeId} {K : Act → World → Prop} (p : Nat) (h : Has n e a) (ho : AtW R i (.store t x y) none ty a)
  (hx : ev e x = some (.pointer (some ⟨b, j, none⟩))) (hy : ev e y = some (.agg vs.toArray)) (h1 : vs.all Value.oneCell' = true) (ht : (P.info? t).map (·.size) = some vs.length) (hS : Sat w0 w Rs) (hp : Rs[p]? = some (SX.blk b cs T)) (hj : j + vs.length ≤ cs.length)
  (hcs : cs.take j ++ vs ++ cs.drop (j + vs.length) = cs') (k : ∀ w' a', Sat w0 w' (Rs.set p (SX.blk b cs' T)) → Has n e a' → K a' w') : wpOp P R Q i K a w := by
 have hb := hS.blk p hp
 obtain ⟨w', hr, h2, h3, h4, h5, h6, h7⟩ := run_storeCells_blk (P := P) vs j 0 w cs hb (by simpa using hj) (fun v hv => List.all_eq_true.1 h1 v hv)
 have hrun : (execOp (evD e) (opr (.store t x y) ty)).run P w = .ok .skip w' := by
  obtain ⟨ti, hti, hsz⟩ := Option.map_eq_some_iff.1 ht
  simp [execOp, opr, Instr.storeAt, Instr.sureAddr, evD, hx, hy, storeVar, sizeOf, typeInfo, hti, hsz, Value.cells, hr]
 refine o_skip h ho (by simp [covers, Op.operands, hx, hy, notSelect]) hrun fun a' ha => k _ a' ?_ ha
 refine hS.upd hp _ h3 h4 h5 (by omega) fun F hF => ⟨F, ⟨hF.1, by rw [← hcs]; simpa using h2⟩, fun b hb => .inl hb, fun k hk hF' => h7 k fun e => hF' ((hF.1 k).2 e)⟩
theorem o_append {i d : Nat} {s x : Operand} {t el ty : TypeId} {v : Value} {sz bytes m c b : Nat} {xs news : List Value} {z : Value} {T2 : TypeId} {K : Act → World → Prop} (p q : Nat) (h : Has n e a) (hd : d < n)
    (ho : AtW R i (.call { callee := .builtin .append, args := #[s, x], argTypes := #[t, t] }) (some d) ty a) (hs : ev e s = some v) (hx : ev e x = some (.slice (some ⟨b, 0, none⟩) m c))
    (ht : P.underlying t = some (.slice el)) (hinfo : (P.info? el).map (fun i => (i.zero, i.size, i.bytes)) = some (some z, sz, bytes)) (hz : z.cells.size = sz) (hsz : 0 < sz)
    (hS : Sat w0 w Rs) (hp : Rs[p]? = some (SX.row v el sz xs)) (hq : Rs[q]? = some (SX.blk b news T2)) (hn : news.length = m * sz) (h1 : news.all Value.oneCell' = true) (hlen : xs.length + news.length ≤ 1000000000) (hby : bytes ≤ 100000 * sz)
    (k : ∀ A nn cc w' a', Sat w0 w' (Rs.set p (SX.row (.slice A nn cc) el sz (xs ++ news))) → (nn * sz = xs.length + news.length) → Has n ((d, .slice A nn cc) :: e) a' → K a' w') : wpOp P R Q i K a w := by
  obtain ⟨i0, hi, hzz⟩ := Option.map_eq_some_iff.1 hinfo
  simp only [Prod.mk.injEq] at hzz
  obtain ⟨hz0, hz1, hz2⟩ := hzz
  obtain ⟨nx, hown⟩ := hS.row p hp
  have hb := hS.blk q hq
  have hl := hown.1
  have hcells : ∀ j u, news[j]? = some u → w.cell? ((⟨b, 0, none⟩ : Addr).add j) = some u := fun j u hu => by
    rw [add0];exact cell_blk hb (by simpa using hu)
  have hnx : nx * sz + m * sz ≤ 1000000000 := by omega
  have hnm : (nx + m) * sz ≤ 1000000000 := by rw [Nat.add_mul]; exact hnx
  have hnm1 : nx + m ≤ 1000000000 := Nat.le_trans (Nat.le_mul_of_pos_right _ hsz) hnm
  have hbytes : (nx + m) * bytes ≤ 140737488355328 := by
    have h2 : (nx + m) * bytes ≤ (nx + m) * (100000 * sz) := Nat.mul_le_mul_left _ hby;have h3 : (nx + m) * (100000 * sz) = 100000 * ((nx + m) * sz) := by rw [Nat.mul_left_comm]
    omega
  obtain ⟨v', w', hr, h2, h3, h4, h5⟩ := run_append_own_at (P := P) w 0 t ty el i0 z sz bytes ht hi hz0 hz1 hz2 hz hsz v nx xs hown ⟨b, 0, none⟩ m c news hn hcells (fun u hu => List.all_eq_true.1 h1 u hu) (by simp only [maxLen]; omega) hbytes (Nat.zero_le _)
  have hrun : (execOp (evD e) (opr (.call { callee := .builtin .append, args := #[s, x], argTypes := #[t, t] }) ty)).run P w = .ok (.value v') w' := by
    simp [execOp, opr, resolve, invoke, builtin, evD, hs, hx, hr]
  have hS' : Sat w0 w' (Rs.set p (SX.row v' el sz (xs ++ news))) := by
    refine hS.upd hp _ h3.os h3.tape h3.output h3.size fun F hF => ⟨fun k => v'.ownBlock = some k, ⟨fun _ => Iff.rfl, _, h2⟩, fun k hk => ?_, fun k hk hF' => h3.block k hk fun e => hF' ((hF.1 k).2 e.symm)⟩
    rcases h5 with h5 | h5
    · exact .inl ((hF.1 k).2 (by rw [← h5]; exact hk))
    · rw [h5] at hk
      injection hk with hk
      exact .inr (by omega)
  obtain ⟨A, nn, cc, rfl, hnn⟩ : ∃ A nn cc, v' = .slice A nn cc ∧ nn = nx + m := by
    rcases h2.2 with ⟨rfl, hn0⟩ | ⟨g, cap, cur, rfl, _⟩
    · exact ⟨none, 0, 0, rfl, hn0.symm⟩
    · exact ⟨_, _, cap, rfl, rfl⟩
  refine o_val h hd ho (by simp [covers, Op.operands, Call.operands, hs, hx, notSelect]) hrun fun a' ha => k A nn cc w' a' hS' ?_ ha
  rw [hnn, Nat.add_mul, ← hl, hn]
theorem o_call {i d f : Nat} {xs : Array Operand} {ts : Array TypeId} {ty : TypeId} {vs : List Value} {fn : Func} {Post : Ending → World → Prop} {K : Act → World → Prop} (h : Has n e a) (hd : d < n)
  (ho : AtW R i (.call { callee := .value (.func f), args := xs, argTypes := ts }) (some d) ty a) (hx : xs.toList.mapM (ev e) = some vs) (hf : P.funcs[f]? = some fn) (hb : (fn.body.isNone || fn.name == "runtime.NumGoroutine") = false)
  (hcall : Calls P f vs.toArray w Post) (kr : ∀ v w' a', Post (.returned v) w' → Has n ((d, v) :: e) a' → K a' w') (kp : ∀ c w', Post (.panicked c) w' → Q (.panic c) a w') (ko : ∀ w', Post .outgrown w' → False) : wpOp P R Q i K a w := by
 obtain ⟨o, h1, h2, h3, h4, h5⟩ := ho
 have hargs : xs.map a.eval = vs.toArray := by
  apply Array.toList_inj.1
  rw [Array.toList_map]
  have key : ∀ (l : List Operand) (vs : List Value), l.mapM (ev e) = some vs → l.map a.eval = vs := by
   intro l
   induction l with
   | nil => intro vs hv; simp at hv; simp [hv]
   | cons x l ih =>
    intro vs hv;rw [List.mapM_cons] at hv;cases hx1 : ev e x with
    | none => simp [hx1] at hv
    | some u =>
     cases hx2 : l.mapM (ev e) with
     | none => simp [hx1, hx2] at hv
     | some us =>
      simp [hx1, hx2] at hv
      subst hv
      simp [h.ev hx1, ih us hx2]
  simpa using key _ _ hx
 simp only [Bool.or_eq_false_iff] at hb
 have hn1 : ¬ fn.body = none := by
  intro he
  rw [he] at hb
  simp at hb
 have hn2 : ¬ fn.name = "runtime.NumGoroutine" := by simpa using hb.2
 have hrun : (execOp a.eval o).run P w = .ok (.enter f vs.toArray) w := by
  simp [execOp, h2, resolve, Deferred.ofValue, Act.eval, invoke, callFunc, hf, hn1, hn2, hargs]
 unfold wpOp
 rw [h1]
 simp only [h5, if_true]
 left
 unfold Oper.wp
 rw [hrun]
 simp only [Oper.upon]
 refine hcall.mono fun en w' hp => ?_
 cases en with
 | returned v => rw [h3]; exact kr v w' _ hp (h.put d v hd)
 | panicked c => exact kp c w' hp
 | outgrown => exact (ko w' hp).elim
theorem o_callF {i d f t : Nat} {cap : List Value} {xs : Array Operand} {ts : Array TypeId} {ty : TypeId} {vs : List Value} {fn : Func} {Post : Ending → World → Prop} {K : Act → World → Prop} (h : Has n e a) (hd : d < n)
  (ho : AtW R i (.call { callee := .value (.tmp t), args := xs, argTypes := ts }) (some d) ty a) (hx : xs.toList.mapM (ev e) = some vs) (ht : lk e t = some (.func (.func f) #[] cap.toArray)) (hf : P.funcs[f]? = some fn) (hb : (fn.body.isNone || fn.name == "runtime.NumGoroutine") = false)
  (hcall : Calls P f (vs ++ cap).toArray w Post) (kr : ∀ v w' a', Post (.returned v) w' → Has n ((d, v) :: e) a' → K a' w') (kp : ∀ c w', Post (.panicked c) w' → Q (.panic c) a w') (ko : ∀ w', Post .outgrown w' → False) : wpOp P R Q i K a w := by
 obtain ⟨o, h1, h2, h3, h4, h5⟩ := ho
 have hargs : xs.map a.eval = vs.toArray := by
  apply Array.toList_inj.1
  rw [Array.toList_map]
  have key : ∀ (l : List Operand) (vs : List Value), l.mapM (ev e) = some vs → l.map a.eval = vs := by
   intro l
   induction l with
   | nil => intro vs hv; simp at hv; simp [hv]
   | cons x l ih =>
    intro vs hv;rw [List.mapM_cons] at hv;cases hx1 : ev e x with
    | none => simp [hx1] at hv
    | some u =>
     cases hx2 : l.mapM (ev e) with
     | none => simp [hx1, hx2] at hv
     | some us =>
      simp [hx1, hx2] at hv
      subst hv
      simp [h.ev hx1, ih us hx2]
  simpa using key _ _ hx
 simp only [Bool.or_eq_false_iff] at hb
 have hn1 : ¬ fn.body = none := by
  intro he
  rw [he] at hb
  simp at hb
 have hn2 : ¬ fn.name = "runtime.NumGoroutine" := by simpa using hb.2
 have hrun : (execOp a.eval o).run P w = .ok (.enter f (vs ++ cap).toArray) w := by
  have hte : a.eval (.tmp t) = .func (.func f) #[] cap.toArray := h.ev ht
  simp [execOp, h2, resolve, Deferred.ofValue, hte, invoke, callFunc, hf, hn1, hn2, hargs]
 unfold wpOp
 rw [h1]
 simp only [h5, if_true]
 left
 unfold Oper.wp
 rw [hrun]
 simp only [Oper.upon]
 refine hcall.mono fun en w' hp => ?_
 cases en with
 | returned v => rw [h3]; exact kr v w' _ hp (h.put d v hd)
 | panicked c => exact kp c w' hp
 | outgrown => exact (ko w' hp).elim
theorem o_panic {i : Nat} {x : Operand} {ty : TypeId} {v : Value} {t : TypeId} {K : Act → World → Prop} (h : Has n e a) (ho : AtW R i (.panic x) none ty a) (hx : ev e x = some (.iface t v)) (k : Q (.panic [{ v := .iface t v, recovered := false }]) a w) : wpOp P R Q i K a w := by
 obtain ⟨o, h1, h2, h3, h4, h5⟩ := ho
 have hrun : (execOp a.eval o).run P w = .halt (.panic (.iface t v)) w := by
  simp [execOp, h2, Instr.panic, h.ev hx]
 unfold wpOp
 rw [h1]
 simp only [h5, if_true]
 left
 unfold Oper.wp
 rw [hrun]
 exact k
end
end SX
end Go.Proofs.Ytcbijhgepdedpaa
