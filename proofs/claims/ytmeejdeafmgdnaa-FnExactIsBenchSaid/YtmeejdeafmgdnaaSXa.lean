/- The walker's own words: frames told by the slots that are alive, memory told by a list of separate pieces, and one lemma for each kind of operation. No program is in sight here. -/
import Derived.OrdersHeld
import Derived.Below
import Derived.KernelRfl
import Derived.Laws.AppendOwn
import Derived.Laws.OwnMore
import Derived.Maps.AppendAt
import Derived.WalkKit
namespace Go.Proofs.Ytmeejdeafmgdnaa
namespace SX
open Go.RowKit

/-! ### 1. Frames: what the slots that are alive hold -/
abbrev Env := List (Nat × Value)
def lk : Env → Nat → Option Value
  | [], _ => none
  | (k, v) :: r, t => bif Nat.beq k t then some v else lk r t
def ev (e : Env) : Operand → Option Value
  | .tmp t => lk e t
  | .const v => some v
  | .func f => some (.func (.func f) #[] #[])
  | .global g => some (.pointer (some ⟨g, 0, none⟩))
structure Has (n : Nat) (e : Env) (a : Act) : Prop where
  size : a.tmps.size = n
  defers : a.defers = []
  held : ∀ t v, lk e t = some v → a.tmps[t]? = some v

theorem Has.ev {n : Nat} {e : Env} {a : Act} {x : Operand} {v : Value} (h : Has n e a) (hx : ev e x = some v) : a.eval x = v := by
  cases x with
  | tmp t =>
    have h1 := h.held t v hx
    simp [Act.eval, h1]
  | const c => simpa [SX.ev, Act.eval] using hx
  | func f => simpa [SX.ev, Act.eval] using hx
  | global g => simpa [SX.ev, Act.eval] using hx

theorem lk_cons (k : Nat) (v : Value) (r : Env) (t : Nat) : lk ((k, v) :: r) t = if k = t then some v else lk r t := by
  by_cases h : k = t
  · subst h; simp [lk]
  · have : Nat.beq k t = false := Bool.eq_false_iff.2 fun hb => h (Nat.eq_of_beq_eq_true hb)
    simp [lk, this, h]

theorem Has.put {n : Nat} {e : Env} {a : Act} (h : Has n e a) (d : Nat) (v : Value) (hd : d < n) : Has n ((d, v) :: e) (a.put (some d) v) := by
  refine ⟨by simp [Act.put, h.size], by simpa [Act.put] using h.defers, fun t u hu => ?_⟩
  rw [lk_cons] at hu
  by_cases ht : d = t
  · subst ht
    simp at hu
    subst hu
    simp [Act.put, h.size, hd]
  · rw [if_neg ht] at hu
    have := h.held t u hu
    simp [Act.put, Array.getElem?_setIfInBounds_ne ht, this]

theorem Has.sub {n : Nat} {e e' : Env} {a : Act} (h : Has n e a) (hs : ∀ p ∈ e', lk e p.1 = some p.2) : Has n e' a := by
  refine ⟨h.size, h.defers, fun t v hv => h.held t v ?_⟩
  have key : ∀ l : Env, lk l t = some v → (t, v) ∈ l := by
    intro l
    induction l with
    | nil => intro h; simp [lk] at h
    | cons p r ih =>
      obtain ⟨k, u⟩ := p
      intro h
      rw [lk_cons] at h
      by_cases hk : k = t
      · subst hk; simp at h; subst h; simp
      · rw [if_neg hk] at h; exact List.mem_cons_of_mem _ (ih h)
  exact hs _ (key e' hv)

/-- What is kept of a frame: these slots. -/
def keep (e : Env) : List Nat → Env
  | [] => []
  | t :: ts => match lk e t with
    | some v => (t, v) :: keep e ts
    | none => keep e ts
theorem keep_sub (e : Env) (ts : List Nat) : ∀ p ∈ keep e ts, lk e p.1 = some p.2 := by
  induction ts with
  | nil => intro p hp; simp [keep] at hp
  | cons t ts ih =>
    intro p hp
    unfold keep at hp
    cases h : lk e t with
    | none => rw [h] at hp; exact ih p hp
    | some v =>
      rw [h] at hp
      rcases List.mem_cons.1 hp with rfl | hp
      · exact h
      · exact ih p hp
theorem Has.keeps {n : Nat} {e : Env} {a : Act} (h : Has n e a) (ts : List Nat) (e' : Env) (he : keep e ts = e') : Has n e' a := he ▸ h.sub (keep_sub e ts)

def env0 (l : List Value) (i : Nat) : Env := match l with
  | [] => []
  | v :: r => (i, v) :: env0 r (i + 1)
theorem lk_env0 (l : List Value) : ∀ i t v, lk (env0 l i) t = some v → i ≤ t ∧ l[t - i]? = some v := by
  induction l with
  | nil => intro i t v h; simp [env0, lk] at h
  | cons x l ih =>
    intro i t v h
    simp only [env0] at h
    rw [lk_cons] at h
    by_cases hi : i = t
    · subst hi; simp at h; subst h; simp
    · rw [if_neg hi] at h
      obtain ⟨h1, h2⟩ := ih _ _ _ h
      refine ⟨by omega, ?_⟩
      rw [show t - i = (t - (i + 1)) + 1 from by omega]
      simpa using h2
/-- The frame with which a call begins. -/
theorem Has.start (args : List Value) (n : Nat) (hn : args.length ≤ n) : Has n (env0 args 0) { tmps := args.toArray ++ Array.replicate (n - args.toArray.size) undef, defers := [] } := by
  refine ⟨by simp; omega, rfl, fun t v h => ?_⟩
  obtain ⟨_, h2⟩ := lk_env0 args 0 t v h
  have hl : t < args.length := by
    have := List.getElem?_eq_some_iff.1 h2
    simpa using this.1
  simp only [Nat.sub_zero] at h2
  rw [Array.getElem?_append_left (by simpa using hl)]
  simpa using h2

/-! ### 2. An operation of a region, by its number -/
def regs : Code → List (Nat × Array Oper)
  | .region id ops _ => [(id, ops)]
  | .seq a b => regs a ++ regs b
  | .cond _ a b => regs a ++ regs b
  | .block _ c => regs c
  | .loop c => regs c
  | .scope c => regs c
  | _ => []
def regIn : List (Nat × Array Oper) → Nat → Array Oper
  | [], _ => #[]
  | (j, r) :: l, i => bif Nat.beq j i then r else regIn l i
def regOf (f : Func) (id : Nat) : Array Oper := match f.body with
  | some c => regIn (regs c) id
  | none => #[]
def spec (o : Oper) : Op × Option Nat × TypeId × Option (Nat × Bool) := (o.op, o.dst, o.type, o.guard)
def At (R : Array Oper) (i : Nat) (op : Op) (d : Option Nat) (ty : TypeId) : Prop := (R[i]?).map spec = some (op, d, ty, none)
theorem At.get {R : Array Oper} {i : Nat} {op : Op} {d : Option Nat} {ty : TypeId} (h : At R i op d ty) : ∃ o, R[i]? = some o ∧ o.op = op ∧ o.dst = d ∧ o.type = ty ∧ o.guard = none := by
  obtain ⟨o, ho, hs⟩ := Option.map_eq_some_iff.1 h
  simp only [spec, Prod.mk.injEq] at hs
  exact ⟨o, ho, hs.1, hs.2.1, hs.2.2.1, hs.2.2.2⟩
/-- Guarded: operation g's answer decides. -/
def AtG (R : Array Oper) (i : Nat) (op : Op) (d : Option Nat) (ty : TypeId) (g : Nat) (b : Bool) (gd : Nat) : Prop :=
  (R[i]?).map spec = some (op, d, ty, some (g, b)) ∧ (R[g]?).bind (·.dst) = some gd

section
variable {P : Program} {R : Array Oper} {Q : Exit → Act → World → Prop} {n : Nat} {e : Env} {a : Act} {w : World}

theorem wanted_none {o : Oper} {y : Nat → Option Bool} (h : o.guard = none) : Region.wanted o y = true := by simp [Region.wanted, h]

/-- An operation that is carried out here: it has no guard, or its guard lets it by. -/
def AtW (R : Array Oper) (i : Nat) (op : Op) (d : Option Nat) (ty : TypeId) (a : Act) : Prop := ∃ o, R[i]? = some o ∧ o.op = op ∧ o.dst = d ∧ o.type = ty ∧ Region.wanted o (yielded R a.tmps) = true
theorem At.here {i : Nat} {op : Op} {d : Option Nat} {ty : TypeId} (h : At R i op d ty) : AtW R i op d ty a := by
  obtain ⟨o, h1, h2, h3, h4, h5⟩ := h.get
  exact ⟨o, h1, h2, h3, h4, wanted_none h5⟩
theorem AtG.wanted {i g gd : Nat} {op : Op} {d : Option Nat} {ty : TypeId} {b c : Bool} (ho : AtG R i op d ty g b gd) (h : Has n e a) (hg : lk e gd = some (.bool c)) :
    ∃ o, R[i]? = some o ∧ o.op = op ∧ o.dst = d ∧ o.type = ty ∧ Region.wanted o (yielded R a.tmps) = (c == b) := by
  obtain ⟨o, h1, hs⟩ := Option.map_eq_some_iff.1 ho.1
  simp only [spec, Prod.mk.injEq] at hs
  refine ⟨o, h1, hs.1, hs.2.1, hs.2.2.1, ?_⟩
  have hy : yielded R a.tmps g = some c := by
    have h3 := h.held _ _ hg
    have h4 := ho.2
    unfold yielded
    simp [h4, h3]
  simp only [Region.wanted, hs.2.2.2, hy]
  cases c <;> cases b <;> rfl
theorem AtG.here {i g gd : Nat} {op : Op} {d : Option Nat} {ty : TypeId} {b : Bool} (ho : AtG R i op d ty g b gd) (h : Has n e a) (hg : lk e gd = some (.bool b)) : AtW R i op d ty a := by
  obtain ⟨o, h1, h2, h3, h4, h5⟩ := ho.wanted h hg
  exact ⟨o, h1, h2, h3, h4, by rw [h5]; simp⟩

/-- Whatever the world of S: this operation hands v to slot d and does nothing else. -/
structure Val (P : Program) (R : Array Oper) (i : Nat) (a : Act) (S : World → Prop) (d : Nat) (v : Value) : Prop where
  mk :: (out : ∃ o, R[i]? = some o ∧ o.dst = some d ∧ YieldsIf P R S o v a)

theorem Val.of_run {i : Nat} {op : Op} {d : Nat} {ty : TypeId} {S : World → Prop} {v : Value} (ho : AtW R i op (some d) ty a)
    (h : ∀ o w, o.op = op → o.type = ty → S w → (execOp a.eval o).run P w = .ok (.value v) w) : Val P R i a S d v := by
  obtain ⟨o, h1, h2, h3, h4, h5⟩ := ho
  exact ⟨⟨o, h1, h3, .inl ⟨h5, fun w hS => h o w h2 h4 hS⟩⟩⟩

/-- A guarded operation that is passed over. -/
theorem Val.off {i g gd : Nat} {op : Op} {d : Nat} {ty : TypeId} {b : Bool} {S : World → Prop} (ho : AtG R i op (some d) ty g b gd) (h : Has n e a) (hg : lk e gd = some (.bool (!b))) : Val P R i a S d undef := by
  obtain ⟨o, h1, h2, h3, h4, h5⟩ := ho.wanted h hg
  exact ⟨⟨o, h1, h3, .inr ⟨by rw [h5]; cases b <;> rfl, rfl⟩⟩⟩

/-- One whose guard was passed over itself. -/
theorem Val.off2 {i g gd : Nat} {op : Op} {d : Nat} {ty : TypeId} {b : Bool} {S : World → Prop} (ho : AtG R i op (some d) ty g b gd) (h : Has n e a) (hg : lk e gd = some undef) : Val P R i a S d undef := by
  obtain ⟨o, h1, hs⟩ := Option.map_eq_some_iff.1 ho.1
  simp only [spec, Prod.mk.injEq] at hs
  refine ⟨⟨o, h1, hs.2.1, .inr ⟨?_, rfl⟩⟩⟩
  have hy : yielded R a.tmps g = none := by
    have h3 := h.held _ _ hg
    have h4 := ho.2
    unfold yielded
    simp [h4, h3, undef]
  simp only [Region.wanted, hs.2.2.2, hy]
  rfl

theorem Val.here {i d : Nat} {v : Value} {S : World → Prop} (y : Val P R i a S d v) {K : Act → World → Prop} (hS : S w) (k : K (a.put (some d) v) w) : wpOp P R Q i K a w := by
  obtain ⟨o, h1, h2, h3⟩ := y.out
  exact h3.wpOp h1 hS (by rw [h2]; exact k)

/-! #### one step in a region that goes by the text -/
theorem p_val {i d : Nat} {v : Value} {rest : List Nat} (h : Has n e a) (hd : d < n) (y : Val P R i a (fun w' => w' = w) d v)
    (k : ∀ a', Has n ((d, v) :: e) a' → wpOps P R Q rest a' w) : wpOps P R Q (i :: rest) a w := by
  rw [wpOps_cons]
  exact y.here rfl (k _ (h.put d v hd))
theorem p_op {i : Nat} {rest : List Nat} (h : wpOp P R Q i (wpOps P R Q rest) a w) : wpOps P R Q (i :: rest) a w := by rw [wpOps_cons]; exact h
theorem p_end (h : Q .normal a w) : wpOps P R Q [] a w := h

theorem Val.here' {i d : Nat} {v : Value} {S : World → Prop} {K : Act → World → Prop} (h : Has n e a) (hd : d < n) (y : Val P R i a S d v) (hS : S w) (k : ∀ a', Has n ((d, v) :: e) a' → K a' w) : wpOp P R Q i K a w := y.here hS (k _ (h.put d v hd))

/-! #### ends of pieces of code -/
theorem then_n {K : Act → World → Prop} (h : K a w) : Exit.then K Q .normal a w := h
theorem then_x {K : Act → World → Prop} {i : Nat} (h : Q (.exit i) a w) : Exit.then K Q (.exit i) a w := h
theorem then_r {K : Act → World → Prop} (h : Q .ret a w) : Exit.then K Q .ret a w := h
theorem then_p {K : Act → World → Prop} {c : List PanicEntry} (h : Q (.panic c) a w) : Exit.then K Q (.panic c) a w := h
theorem in_n {i : Nat} (h : Q .normal a w) : Exit.inBlock i Q .normal a w := h
theorem in_r {i : Nat} (h : Q .ret a w) : Exit.inBlock i Q .ret a w := h
theorem in_p {i : Nat} {c : List PanicEntry} (h : Q (.panic c) a w) : Exit.inBlock i Q (.panic c) a w := h
theorem in_x {i : Nat} (h : Q .normal a w) : Exit.inBlock i Q (.exit i) a w := by simp only [Exit.inBlock, if_true]; exact h
theorem in_xo {i j : Nat} (hij : Nat.beq j i = false) (h : Q (.exit j) a w) : Exit.inBlock i Q (.exit j) a w := by
  have : ¬ j = i := fun e => by subst e; simp at hij
  simp only [Exit.inBlock, this, if_false]; exact h
/-- A panic's exit doesn't look at the slots. -/
def PutOK (Q : Exit → Act → World → Prop) : Prop := ∀ (c : List PanicEntry) (d : Option Nat) (v : Value) (a : Act) (w : World), Q (.panic c) (a.put d v) w → Q (.panic c) a w
theorem pk_body {fn : Func} {Z : Ending → World → Prop} : PutOK (bodyPost P fn Z) := fun c d v a w h => by cases d <;> exact h
theorem pk_then {K : Act → World → Prop} (h : PutOK Q) : PutOK (Exit.then K Q) := h
theorem pk_in {i : Nat} (h : PutOK Q) : PutOK (Exit.inBlock i Q) := h
theorem c_true {c : Operand} {x y : Code} {t : Bool} (h : Has n e a) (hc : ev e c = some (.bool t)) (ht : t = true) (k : x.wp P Q a w) : (Code.cond c x y).wp P Q a w := by
  subst ht; exact wp_cond_true (h.ev hc) k
theorem c_false {c : Operand} {x y : Code} {t : Bool} (h : Has n e a) (hc : ev e c = some (.bool t)) (ht : t = false) (k : y.wp P Q a w) : (Code.cond c x y).wp P Q a w := by
  subst ht; exact wp_cond_false (h.ev hc) k
theorem forall_mem_2 {i j : Nat} {p : Nat → Prop} (h1 : p i) (h2 : p j) : ∀ k ∈ [i, j], p k := by
  intro k hk
  simp only [List.mem_cons, List.not_mem_nil, or_false] at hk
  rcases hk with rfl | rfl <;> assumption
theorem forall_mem_3 {i j l : Nat} {p : Nat → Prop} (h1 : p i) (h2 : p j) (h3 : p l) : ∀ k ∈ [i, j, l], p k := by
  intro k hk
  simp only [List.mem_cons, List.not_mem_nil, or_false] at hk
  rcases hk with rfl | rfl | rfl <;> assumption
theorem wrap_i64 {x : Int} (h0 : -9223372036854775808 ≤ x) (h1 : x ≤ 9223372036854775807) : IntKind.i64.wrap x = x := by rw [IntKind.wrap_i64]; omega

theorem enter {f : Nat} {fn : Func} {c : Code} {args : List Value} {Z : Ending → World → Prop} (hf : P.funcs[f]? = some fn) (hb : fn.body = some c) (hn : fn.ntmps = n) (hl : args.length ≤ n)
    (h : ∀ a, Has n (env0 args 0) a → c.wp P (bodyPost P fn Z) a w) : Calls P f args.toArray w Z := by
  refine calls_of_wp hf hb ?_
  rw [hn]
  exact h _ (Has.start args n hl)
theorem end_none {fn : Func} {Z : Ending → World → Prop} (h : Has n e a) (hr : fn.results = #[]) (k : Z (.returned (.tuple #[])) w) : bodyPost P fn Z .normal a w := ⟨h.defers, _, results_none hr _ _ _, k⟩
theorem end_noneR {fn : Func} {Z : Ending → World → Prop} (h : Has n e a) (hr : fn.results = #[]) (k : Z (.returned (.tuple #[])) w) : bodyPost P fn Z .ret a w := ⟨h.defers, _, results_none hr _ _ _, k⟩
theorem getD_held {t : Nat} {v : Value} (h : Has n e a) (hv : lk e t = some v) : a.tmps.getD t undef = v := by
  have := h.held t v hv
  simp [this]
theorem end_tmp {fn : Func} {Z : Ending → World → Prop} {t : Nat} {v : Value} (h : Has n e a) (hr : fn.results = #[.tmp t]) (hv : lk e t = some v) (k : Z (.returned v) w) : bodyPost P fn Z .ret a w :=
  ⟨h.defers, v, by rw [results_tmp hr, getD_held h hv], k⟩
theorem end_tmp2 {fn : Func} {Z : Ending → World → Prop} {t u : Nat} {v x : Value} (h : Has n e a) (hr : fn.results = #[.tmp t, .tmp u]) (hv : lk e t = some v) (hx : lk e u = some x) (k : Z (.returned (.tuple #[v, x])) w) : bodyPost P fn Z .ret a w :=
  ⟨h.defers, _, by rw [results_tmp2 hr, getD_held h hv, getD_held h hx], k⟩

/-! #### a region that draws its order. F: what the loads read, held until operation m (a store) has come up -/
def wpD (P : Program) (R : Array Oper) (Q : Exit → Act → World → Prop) (m : Nat) (F : World → Prop) : Nat → Array Bool → Act → World → Prop
  | 0, l, a, w => Region.ready .any R l = [] ∧ Q .normal a w
  | k + 1, l, a, w => (Region.ready .any R l = [] → Q .normal a w) ∧
    ∀ i ∈ Region.ready .any R l, wpOp P R Q i (fun a' w' => ((l.setIfInBounds i true).getD m false = true ∨ F w') ∧ wpD P R Q m F k (l.setIfInBounds i true) a' w') a w

theorem wpD_any {m : Nat} {F : World → Prop} : ∀ (k : Nat) (l : Array Bool) (a : Act) (w : World), wpD P R Q m F k l a w → wpAny P .any R Q k l a w
  | 0, _, _, _, h => h
  | k + 1, _, _, _, h => ⟨h.1, fun i hi => wpOp_mono (fun a' w' h' => wpD_any k _ a' w' h'.2) (h.2 i hi)⟩

/-- Does m wait for i? -/
def waits (R : Array Oper) (m i : Nat) : Bool := match R[m]? with
  | some o => o.after.any fun e => Region.binds .any e && e.on == i
  | none => true

theorem wpD_first {m : Nat} {F : World → Prop} {i : Nat} {oi : Oper} {v : Value} (hi : R[i]? = some oi) (hsel : ∀ (j : Nat) (o : Oper) cs b, R[j]? = some o → o.op ≠ .select cs b)
    (hQ : ∀ c a w, Q (.panic c) (a.put oi.dst v) w → Q (.panic c) a w) (hm : waits R m i = true) :
    ∀ (k : Nat) (l : Array Bool) (a : Act) (w : World), l.getD m false = false →
      (∀ j oj, R[j]? = some oj → j ≠ i → l.getD j true = false → (∀ e ∈ oj.after, Region.binds .any e = true → e.on ≠ i) → oi.apart R oj = true) →
      i ∈ Region.ready .any R l → i ≠ m → YieldsIf P R F oi v a → F w →
      wpD P R Q m F k (l.setIfInBounds i true) (a.put oi.dst v) w → wpD P R Q m F (k + 1) l a w := by
  intro k
  induction k with
  | zero =>
    intro l a w _ _ hr him hy hF H
    refine ⟨fun h => (by rw [h] at hr; cases hr), fun j hj => ?_⟩
    by_cases hji : j = i
    · subst hji; exact hy.wpOp hi hF ⟨.inr hF, H⟩
    · have := ready_mono hj hji
      rw [H.1] at this
      cases this
  | succ k ih =>
    intro l a w hlm hfree hr him hy hF H
    refine ⟨fun h => (by rw [h] at hr; cases hr), fun j hj => ?_⟩
    by_cases hji : j = i
    · subst hji; exact hy.wpOp hi hF ⟨.inr hF, H⟩
    · have h1 := H.2 j (ready_mono hj hji)
      obtain ⟨hjun, oj, hoj, hall⟩ := mem_ready.1 hj
      have hnot : ∀ e ∈ oj.after, Region.binds .any e = true → e.on ≠ i := fun e he hb heq => by
        have h1 := hall e he hb
        have h0 := (mem_ready.1 hr).1
        rw [heq] at h1
        rcases Nat.lt_or_ge i l.size with h' | h'
        · simp [h'] at h0 h1; rw [h0] at h1; cases h1
        · simp [Array.getElem?_eq_none h'] at h1
      have hjm : j ≠ m := by
        intro hjm
        subst hjm
        simp only [waits, hoj] at hm
        obtain ⟨e, he, hb⟩ := Array.any_eq_true'.1 hm
        simp only [Bool.and_eq_true, beq_iff_eq] at hb
        exact hnot e he hb.1 hb.2
      have h2 := wpOp_putIf hoj (hfree j oj hoj hji hjun hnot) (fun cs b => hsel i oi cs b hi) (fun cs b => hsel j oj cs b hoj) hQ hy h1
      have hfree' : ∀ k ok, R[k]? = some ok → k ≠ i → (l.setIfInBounds j true).getD k true = false →
          (∀ e ∈ ok.after, Region.binds .any e = true → e.on ≠ i) → oi.apart R ok = true := fun k ok hk hki hun hno => by
        refine hfree k ok hk hki ?_ hno
        by_cases hjk : j = k
        · subst hjk; exact hjun
        · rw [getD_set_ne true hjk] at hun; exact hun
      have hlm' : (l.setIfInBounds j true).getD m false = false := by rw [getD_set_ne false hjm]; exact hlm
      have notm : ∀ l' : Array Bool, l'.getD m false = false → l'.getD m false = true → False := fun l' h0 h1 => by rw [h0] at h1; cases h1
      refine wpOp_mono (fun a' w' h3 => ?_) h2
      have hF' : F w' := by
        rcases h3.2.1 with h4 | h4
        · exfalso
          refine notm ((l.setIfInBounds i true).setIfInBounds j true) ?_ h4
          rw [getD_set_ne false hjm, getD_set_ne false him]
          exact hlm
        · exact h4
      refine ⟨.inr hF', ih (l.setIfInBounds j true) a' w' hlm' hfree' (ready_mono hr (Ne.symm hji)) him h3.1 hF' ?_⟩
      rw [Array.setIfInBounds_comm _ _ hji]
      exact h3.2.2

theorem wpD_firstP {m : Nat} {F : World → Prop} {i : Nat} {oi : Oper} {v : Value} (hi : R[i]? = some oi) (hsel : ∀ (j : Nat) (o : Oper) cs b, R[j]? = some o → o.op ≠ .select cs b)
    (hQ : ∀ c a w, Q (.panic c) (a.put oi.dst v) w → Q (.panic c) a w) :
    ∀ (k : Nat) (l : Array Bool) (a : Act) (w : World),
      (∀ j oj, R[j]? = some oj → j ≠ i → l.getD j true = false → (∀ e ∈ oj.after, Region.binds .any e = true → e.on ≠ i) → oi.apart R oj = true) →
      i ∈ Region.ready .any R l → i ≠ m → YieldsIf P R (fun _ => True) oi v a → (l.getD m false = true ∨ F w) →
      wpD P R Q m F k (l.setIfInBounds i true) (a.put oi.dst v) w → wpD P R Q m F (k + 1) l a w := by
  have keepm : ∀ (l : Array Bool) (i m : Nat), i ≠ m → (l.setIfInBounds i true).getD m false = l.getD m false := fun l i m h => getD_set_ne false h
  intro k
  induction k with
  | zero =>
    intro l a w _ hr him hy hF H
    refine ⟨fun h => (by rw [h] at hr; cases hr), fun j hj => ?_⟩
    by_cases hji : j = i
    · subst hji; exact hy.wpOp hi trivial ⟨by rw [keepm l j m him]; exact hF, H⟩
    · have := ready_mono hj hji
      rw [H.1] at this
      cases this
  | succ k ih =>
    intro l a w hfree hr him hy hF H
    refine ⟨fun h => (by rw [h] at hr; cases hr), fun j hj => ?_⟩
    by_cases hji : j = i
    · subst hji; exact hy.wpOp hi trivial ⟨by rw [keepm l j m him]; exact hF, H⟩
    · have h1 := H.2 j (ready_mono hj hji)
      obtain ⟨hjun, oj, hoj, hall⟩ := mem_ready.1 hj
      have hnot : ∀ e ∈ oj.after, Region.binds .any e = true → e.on ≠ i := fun e he hb heq => by
        have h1 := hall e he hb
        have h0 := (mem_ready.1 hr).1
        rw [heq] at h1
        rcases Nat.lt_or_ge i l.size with h' | h'
        · simp [h'] at h0 h1; rw [h0] at h1; cases h1
        · simp [Array.getElem?_eq_none h'] at h1
      have h2 := wpOp_putIf hoj (hfree j oj hoj hji hjun hnot) (fun cs b => hsel i oi cs b hi) (fun cs b => hsel j oj cs b hoj) hQ hy h1
      have hfree' : ∀ k ok, R[k]? = some ok → k ≠ i → (l.setIfInBounds j true).getD k true = false →
          (∀ e ∈ ok.after, Region.binds .any e = true → e.on ≠ i) → oi.apart R ok = true := fun k ok hk hki hun hno => by
        refine hfree k ok hk hki ?_ hno
        by_cases hjk : j = k
        · subst hjk; exact hjun
        · rw [getD_set_ne true hjk] at hun; exact hun
      refine wpOp_mono (fun a' w' h3 => ?_) h2
      have hF' : (l.setIfInBounds j true).getD m false = true ∨ F w' := by
        have h4 := h3.2.1
        rw [Array.setIfInBounds_comm _ _ (Ne.symm hji), keepm _ i m him] at h4
        exact h4
      refine ⟨hF', ih (l.setIfInBounds j true) a' w' hfree' (ready_mono hr (Ne.symm hji)) him h3.1 hF' ?_⟩
      rw [Array.setIfInBounds_comm _ _ hji]
      exact h3.2.2
/-- What only computes, taken first. -/
theorem d_pure {m : Nat} {F : World → Prop} {i d : Nat} {v : Value} {k : Nat} {l : Array Bool} (h : Has n e a) (hd : d < n) (y : Val P R i a (fun _ => True) d v) (hF : l.getD m false = true ∨ F w)
    (hs : Region.noSelect R = true) (hf : (Region.free .any R l i && (Region.ready .any R l).contains i && !(Nat.beq i m)) = true)
    (hQ : PutOK Q)
    (kk : ∀ a', Has n ((d, v) :: e) a' → wpD P R Q m F k (l.setIfInBounds i true) a' w) : wpD P R Q m F (k + 1) l a w := by
  obtain ⟨o, h1, h2, h3⟩ := y.out
  simp only [Bool.and_eq_true, Bool.not_eq_true'] at hf
  obtain ⟨⟨hf1, hf2⟩, hf4⟩ := hf
  have him : i ≠ m := fun e => by subst e; simp at hf4
  exact wpD_firstP h1 (Region.noSelect_spec hs) (fun c a' w' hq => hQ c _ _ a' w' hq) k l a w (Region.free_spec h1 hf1) (by simpa using hf2) him h3 hF
    (by rw [h2]; exact kk _ (h.put d v hd))

/-- A value's operation, taken first. -/
theorem d_val {m : Nat} {F : World → Prop} {i d : Nat} {v : Value} {k : Nat} {l : Array Bool} (h : Has n e a) (hd : d < n) (y : Val P R i a F d v) (hF : F w)
    (hs : Region.noSelect R = true) (hf : (Region.free .any R l i && (Region.ready .any R l).contains i && waits R m i && !(Nat.beq i m) && !(l.getD m false)) = true)
    (hQ : PutOK Q)
    (kk : ∀ a', Has n ((d, v) :: e) a' → wpD P R Q m F k (l.setIfInBounds i true) a' w) : wpD P R Q m F (k + 1) l a w := by
  obtain ⟨o, h1, h2, h3⟩ := y.out
  simp only [Bool.and_eq_true, Bool.not_eq_true'] at hf
  obtain ⟨⟨⟨⟨hf1, hf2⟩, hf3⟩, hf4⟩, hf5⟩ := hf
  have him : i ≠ m := fun e => by subst e; simp at hf4
  exact wpD_first h1 (Region.noSelect_spec hs) (fun c a' w' hq => hQ c _ _ a' w' hq) hf3 k l a w hf5 (Region.free_spec h1 hf1) (by simpa using hf2) him h3 hF
    (by rw [h2]; exact kk _ (h.put d v hd))
/-- Whichever comes up. -/
theorem d_all {m : Nat} {F : World → Prop} {rs : List Nat} {k : Nat} {l : Array Bool} (hr : Region.ready .any R l = rs) (hne : rs ≠ [])
    (h : ∀ i ∈ rs, wpOp P R Q i (fun a' w' => ((l.setIfInBounds i true).getD m false = true ∨ F w') ∧ wpD P R Q m F k (l.setIfInBounds i true) a' w') a w) : wpD P R Q m F (k + 1) l a w :=
  ⟨fun h0 => absurd (hr ▸ h0) hne, hr ▸ h⟩
theorem d_one {m : Nat} {F : World → Prop} {i : Nat} {k : Nat} {l : Array Bool} (hr : Region.ready .any R l = [i])
    (h : wpOp P R Q i (fun a' w' => ((l.setIfInBounds i true).getD m false = true ∨ F w') ∧ wpD P R Q m F k (l.setIfInBounds i true) a' w') a w) : wpD P R Q m F (k + 1) l a w :=
  d_all hr (by simp) (by simpa using h)
theorem d_end {m : Nat} {F : World → Prop} {l : Array Bool} (hr : Region.ready .any R l = []) (h : Q .normal a w) : ∀ k, wpD P R Q m F k l a w
  | 0 => ⟨hr, h⟩
  | _ + 1 => ⟨fun _ => h, by rw [hr]; simp⟩
theorem d_begin {id m : Nat} {F : World → Prop} (hm : P.follows .mixedOrders = true) (h : wpD P R Q m F R.size (Array.replicate R.size false) a w.drew) : (Code.region id R true).wp P Q a w :=
  wp_region_any hm (wpD_any _ _ _ _ h)
theorem p_begin {id : Nat} (h : wpOps P R Q (List.range R.size) a w) : (Code.region id R false).wp P Q a w := wp_region h
end
end SX
end Go.Proofs.Ytmeejdeafmgdnaa
