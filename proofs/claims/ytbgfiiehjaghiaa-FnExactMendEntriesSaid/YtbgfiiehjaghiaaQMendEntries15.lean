/- What the claim FnExactMendEntries rests on, part 15 of 23; the last part proves it: for every input the law answers true, and its arguments read behind the call as before it. No condition. -/
import Derived.OrdersIn
import Derived.RangeFuncNested
import Derived.RangeFuncBound
import Derived.RangeFuncCalls
import Derived.RangeFuncLeaves
import Derived.Test.YtbgfiiehjaghiaaQMendEntries8
set_option linter.unusedSimpArgs false
set_option linter.unusedVariables false
namespace Go.Proofs.Ytbgfiiehjaghiaa
namespace SX
open Go.RowKit
section
variable {P : Program} {R : Array Oper} {Q : Exit → Act → World → Prop} {n m l : Nat} {e : Env} {a : Act} {w w0 : World} {Rs : List Asn}
abbrev FR (l : Nat) : Fence := Fence.wide.inRound l
def noDefer (R : Array Oper) : Bool := R.toList.all fun o => match o.op with | .defer _ => false | _ => true
theorem noDefer_at {i : Nat} {o : Oper} (h : noDefer R = true) (hi : R[i]? = some o) : ∀ c, o.op ≠ .defer c := by
 intro c hc
 have := List.all_eq_true.1 h o (Array.mem_toList_iff.2 (Array.mem_of_getElem? hi))
 rw [hc] at this
 cases this
theorem oper_in {o : Oper} {K : Act → World → Prop} (hnd : ∀ c, o.op ≠ .defer c) (h : o.wp P a w K Q) : o.wpIn (FR l) m P a w K Q := by
 refine ⟨fun _ _ => trivial, ?_⟩
 rw [show o.semAt (FR l).round a.eval = execOp a.eval o from Oper.semAt_some l _ _ hnd]
 unfold Oper.wp at h
 generalize (execOp a.eval o).run P w = r at h ⊢
 cases r with
 | ok v w' =>
  cases v with
  | enter f args => exact ⟨(by intro hd; cases hd), CallsIn.inRound l (callsIn_wide.2 h)⟩
  | row r args => exact ⟨(by intro hd; cases hd), fun c cs _ => by obtain ⟨v, w2, h1, h2⟩ := h c cs; exact ⟨v, w2, h1, stepsIn_wide.2 h2⟩⟩
  | round => exact h.elim
  | _ => exact h
 | halt hh w' => cases hh <;> exact h
def NoOut (Q : Exit → Act → World → Prop) : Prop := ∀ a w, ¬ Q .outgrown a w
theorem no_then {K : Act → World → Prop} (h : NoOut Q) : NoOut (Exit.then K Q) := h
theorem no_in {i : Nat} (h : NoOut Q) : NoOut (Exit.inBlock i Q) := h
theorem opIn {i : Nat} {K K' : Act → World → Prop} (hnd : noDefer R = true) (hq : NoOut Q) (hK : ∀ a w, K a w → K' a w) (h : wpOp P R Q i K a w) : wpOpIn (FR l) m P R Q i K' a w := by
  unfold wpOp at h
  unfold wpOpIn
  cases hi : R[i]? with
  | none => simp only [hi] at h ⊢; exact hK _ _ h
  | some o =>
    simp only [hi] at h ⊢
    split
    · rename_i hw
      rw [if_pos hw] at h
      rcases h with h | ⟨_, a', w', h⟩
      · exact Oper.wpIn_mono hK (oper_in (noDefer_at hnd hi) h)
      · exact absurd h (hq _ _)
    · rename_i hw
      rw [if_neg hw] at h;exact ⟨fun _ _ => trivial, hK _ _ h⟩
theorem opsIn (hnd : noDefer R = true) (hq : NoOut Q) : ∀ (L : List Nat) (a : Act) (w : World), wpOps P R Q L a w → wpOpsIn (FR l) m P R Q L a w
 | [], _, _, h => h
 | i :: L, a, w, h => by
  rw [wpOpsIn_cons]
  rw [wpOps_cons] at h
  exact opIn hnd hq (fun a w h => opsIn hnd hq L a w h) h
theorem r_begin {id : Nat} (L : List Nat) (hq : NoOut Q) (h : wpOps P R Q L a w) (hL : List.range R.size = L := by kernel_rfl) (hnd : noDefer R = true := by kernel_rfl) : (Code.region id R false).wpIn (FR l) m P Q a w := by
 subst hL
 exact wpIn_region (opsIn hnd hq _ _ _ h)
def Qd (ds : List Deferred) (Q : Exit → Act → World → Prop) : Exit → Act → World → Prop := fun e b w => Q e { b with defers := ds } w
def quietOp : Op → Bool
 | .move _ | .assign _ | .load .. | .store .. | .fieldAddr .. | .binOp .. | .unOp .. | .alloc .. | .box .. | .buildSlice .. => true
 | .call c => match c.callee with | .builtin .len => true | _ => false
 | _ => false
theorem run_len {ρ : Operand → Value} {c : Call} {ty : TypeId} {w w' : World} {nx : Next} (hc : c.callee = .builtin .len) (h : (do let d ← resolve ρ c ty; invoke d.target d.args : Sem Next).run P w = .ok nx w') : ∃ v, nx = .value v := by
 obtain ⟨q, e⟩ : ∃ q, resolve ρ c ty = pure { target := .builtin .len c.argTypes ty q, args := c.args.map ρ } := by unfold resolve; rw [hc]; exact ⟨_, rfl⟩
 rw [e] at h
 simp only [Sem.run_bind, Sem.run_pure, Result.andThen_ok, invoke, builtin] at h
 generalize (Builtin.len_ _ _ _).run P w = q at h
 cases q with
 | ok v w1 => simp [Result.andThen] at h; exact ⟨v, h.1.symm⟩
 | halt x w1 => simp [Result.andThen] at h
theorem run_v {s : Sem Value} {w w' : World} {nx : Next} (h : (do pure (Next.value (← s)) : Sem Next).run P w = .ok nx w') : (∃ v, nx = .value v) ∨ nx = .skip := by
 rw [Sem.run_bind] at h
 cases hs : s.run P w <;> rw [hs] at h <;> simp [Result.andThen] at h
 exact .inl ⟨_, h.1.symm⟩
theorem run_u {s : Sem Unit} {w w' : World} {nx : Next} (h : (do s; pure Next.skip : Sem Next).run P w = .ok nx w') : (∃ v, nx = .value v) ∨ nx = .skip := by
 rw [Sem.run_bind] at h
 cases hs : s.run P w <;> rw [hs] at h <;> simp [Result.andThen] at h
 exact .inr h.1.symm
theorem exec_quiet {ρ : Operand → Value} {o : Oper} {w w' : World} {nx : Next} (hq : quietOp o.op = true) (h : (execOp ρ o).run P w = .ok nx w') : (∃ v, nx = .value v) ∨ nx = .skip := by
 unfold execOp at h
 cases ho : o.op <;> rw [ho] at hq h <;> first | (cases hq; done) | (rename_i c; have hc : c.callee = .builtin .len := (by simp only [quietOp] at hq; split at hq; assumption; cases hq); exact .inl (run_len hc h)) | exact run_v h | exact run_u h | (simp at h; exact .inl ⟨_, h.1.symm⟩)
def quietR (R : Array Oper) : Bool := R.toList.all fun o => quietOp o.op
theorem operD {o : Oper} {K : Act → World → Prop} {ds : List Deferred} (hnd : quietOp o.op = true) (h : o.wp P a w (fun b w => K { b with defers := ds } w) (Qd ds Q)) : o.wp P { a with defers := ds } w K Q := by
 unfold Oper.wp at h ⊢
 rw [show ({ a with defers := ds } : Act).eval = a.eval from rfl]
 cases hr : (execOp a.eval o).run P w with
 | ok v w' =>
  rw [hr] at h
  rcases exec_quiet hnd hr with ⟨x, rfl⟩ | rfl
  · cases hd : o.dst <;> simp only [Oper.upon, hd, Act.put] at h ⊢ <;> exact h
  · cases hd : o.dst <;> simp only [Oper.upon, hd, Act.put] at h ⊢ <;> exact h
 | halt hh w' => rw [hr] at h; cases hh <;> exact h
theorem opsD {ds : List Deferred} (hnd : quietR R = true) (hq : NoOut Q) : ∀ (L : List Nat) (a : Act) (w : World), wpOps P R (Qd ds Q) L a w → wpOps P R Q L { a with defers := ds } w
  | [], _, _, h => h
  | i :: L, a, w, h => by
    rw [wpOps_cons] at h ⊢
    unfold wpOp at h ⊢
    cases hi : R[i]? with
    | none => simp only [hi] at h ⊢; exact opsD hnd hq L _ _ h
    | some o =>
      simp only [hi] at h ⊢
      have hqo : quietOp o.op = true := List.all_eq_true.1 hnd o (Array.mem_toList_iff.2 (Array.mem_of_getElem? hi))
      split
      · rename_i hw
        rw [if_pos hw] at h
        rcases h with h | ⟨_, a', w', h⟩
        · exact .inl (operD hqo (Oper.wp_mono (fun b w h => opsD hnd hq L b w h) h))
        · exact absurd h (hq _ _)
      · rename_i hw
        rw [if_neg hw] at h
        have := opsD hnd hq L _ _ h
        cases hd : o.dst <;> simp only [hd, Act.put] at this ⊢ <;> exact this
theorem p_beginD {id : Nat} {ds : List Deferred} (L : List Nat) (hq : NoOut Q) (h : wpOps P R (Qd ds Q) L a w) (hL : List.range R.size = L := by kernel_rfl) (hnd : quietR R = true := by kernel_rfl) : (Code.region id R false).wp P Q { a with defers := ds } w := by
 subst hL; exact wp_region (opsD hnd hq _ _ _ h)
theorem then_d {K : Act → World → Prop} {ds : List Deferred} (h : K { a with defers := ds } w) : Qd ds (Exit.then K Q) .normal a w := h
theorem c_trueD {n : Nat} {e : Env} {c : Operand} {x y : Code} {t : Bool} {ds : List Deferred} (h : Has n e a) (hc : ev e c = some (.bool t)) (ht : t = true) (k : x.wp P Q { a with defers := ds } w) : (Code.cond c x y).wp P Q { a with defers := ds } w := by subst ht; exact wp_cond_true (show ({ a with defers := ds } : Act).eval c = .bool true from h.ev hc) k
theorem c_falseD {n : Nat} {e : Env} {c : Operand} {x y : Code} {t : Bool} {ds : List Deferred} (h : Has n e a) (hc : ev e c = some (.bool t)) (ht : t = false) (k : y.wp P Q { a with defers := ds } w) : (Code.cond c x y).wp P Q { a with defers := ds } w := by subst ht; exact wp_cond_false (show ({ a with defers := ds } : Act).eval c = .bool false from h.ev hc) k
def bodyPM (P : Program) (fn : Func) (Z : Ending → World → Prop) : Exit → Act → World → Prop
 | .normal, a, w | .ret, a, w => LeavesInM Fence.wide 9 P fn a.tmps Z a.defers .returning w
 | _, _, _ => False
theorem no_bodyM {fn : Func} {Z : Ending → World → Prop} : NoOut (bodyPM P fn Z) := fun a w h => h.elim
theorem enterM {f : Nat} {fn : Func} {c : Code} {args : List Value} {Z : Ending → World → Prop} (hf : P.funcs[f]? = some fn) (hb : fn.body = some c) (hn : fn.ntmps = n) (hl : args.length ≤ n)
    (h : ∀ a, Has n (env0 args 0) a → c.wp P (bodyPM P fn Z) a w) : Calls P f args.toArray w Z := by
  refine callsIn_wide.1 (callsIn_of_wp_marks (F := Fence.wide) (n := 9) hf hb trivial (wpIn_mono (Q := bodyPM P fn Z) (wpIn_wide.2 ?_) ?_))
  · have := h _ (Has.start args n hl)
    rw [hn];exact this
  · intro e a w h
    cases e <;> first | exact h | exact h.elim
theorem endM_res2 {fn : Func} {Z : Ending → World → Prop} {r1 r2 : ResultVar} {v1 v2 : Value} (h : Has n e a) (hr : fn.results = #[r1, r2]) (h1 : ResIs P a.tmps w r1 v1) (h2 : ResIs P a.tmps w r2 v2) (k : Z (.returned (.tuple #[v1, v2])) w) : bodyPM P fn Z .ret a w := by
 show LeavesInM _ _ _ _ _ _ a.defers _ _
 rw [h.defers]
 exact ⟨_, by rw [results_eq, hr]; simp [resOf_run h1, resOf_run h2], k⟩
def markD (D : Nat) : List Deferred := [{ target := .collected D, args := #[] }]
theorem endD_res2 {D : Nat} {fn : Func} {Z : Ending → World → Prop} {r1 r2 : ResultVar} {v1 v2 : Value} (hr : fn.results = #[r1, r2]) (hD : w.heap[D]? = some (.deferred (some [])))
  (h1 : ResIs P a.tmps (w.putObj D (.deferred none)) r1 v1) (h2 : ResIs P a.tmps (w.putObj D (.deferred none)) r2 v2) (k : Z (.returned (.tuple #[v1, v2])) (w.putObj D (.deferred none))) : bodyPM P fn Z .ret { a with defers := markD D } w :=
 ⟨by simp, .inl ⟨D, _, rfl, run_takeDeferred hD, ⟨_, by rw [results_eq, hr]; simp [resOf_run h1, resOf_run h2], k⟩⟩⟩
def Cellar (R : Asn) : Prop := ∀ w F, R.says w F → ∀ k, F k → ∃ c t r, w.heap[k]? = some (.cells c t r)
theorem cellar_blk {b : Nat} {cs : List Value} {T : TypeId} : Cellar (SX.blk b cs T) := fun w F h k hk => by
 rw [(h.1 k).1 hk]; exact ⟨_, _, _, h.2⟩
theorem cellar_row {v : Value} {T : TypeId} {sz : Nat} {xs : List Value} : Cellar (SX.row v T sz xs) := fun w F h k hk => by
  obtain ⟨h1, n, h2, h3⟩ := h
  have hk2 := (h1 k).1 hk
  rcases h3 with ⟨rfl, _⟩ | ⟨g, cap, cur, rfl, hb, hg, rest⟩
  · simp [Value.ownBlock] at hk2
  · simp [Value.ownBlock] at hk2
    subst hk2
    exact ⟨_, _, _, hg⟩
theorem Sat.other {B : Nat} {row : Option Nat} {w' : World} (h : Sat w0 w Rs) (hc : ∀ R ∈ Rs, Cellar R) (hB : w0.heap.size ≤ B) (hg : w.grownBy w' row) (hr : ∀ r, row = some r → B ≤ r ∧ ∃ o : Obj, w.heap[r]? = some o ∧ o.isCells = false) : Sat w0 w' Rs := by
 obtain ⟨hb, F, h1, h2, h3⟩ := h
 refine ⟨hb.grown hg hb.size fun k e => by have := (hr k e).1; omega, F, fun i R hi => R.loc w w' (F i) hg.size (h1 i R hi) fun k hk => hg.block k (h3 i k hk).2 fun e => ?_, h2, fun i b hF => ⟨(h3 i b hF).1, Nat.lt_of_lt_of_le (h3 i b hF).2 hg.size⟩⟩
 obtain ⟨c, t, r, hc2⟩ := hc R (List.mem_of_getElem? hi) w (F i) (h1 i R hi) k hk
 obtain ⟨_, o, ho, hoc⟩ := hr k e.symm
 rw [hc2] at ho
 injection ho with ho
 subst ho
 cases hoc
def others (B : Nat) (W : World) : Asn where
 says w F := W.heap.size ≤ w.heap.size ∧ (∀ k, F k ↔ (B ≤ k ∧ ∃ o : Obj, W.heap[k]? = some o ∧ o.isCells = false)) ∧ ∀ k, F k → w.heap[k]? = W.heap[k]?
 lt w F h k hk := by
  obtain ⟨_, o, ho, _⟩ := (h.2.1 k).1 hk
  have := (h.2.2 k hk).trans ho
  exact (Array.getElem?_eq_some_iff.1 this).1
 loc w w' F hz h hk := ⟨Nat.le_trans h.1 hz, h.2.1, fun k hF => (hk k hF).trans (h.2.2 k hF)⟩
theorem Sat.addN {G : Nat → Prop} (R' : Asn) (h : Sat w0 w Rs) (hc : ∀ R ∈ Rs, Cellar R) (hR' : R'.says w G) (hG : ∀ k, G k → w0.heap.size ≤ k ∧ ∃ o : Obj, w.heap[k]? = some o ∧ o.isCells = false) : Sat w0 w (R' :: Rs) := by
  obtain ⟨hb, F, h1, h2, h3⟩ := h
  have hin : ∀ (j : Nat) (R : Asn), Rs[j]? = some R → (fun k => (∃ R, Rs[j]? = some R) ∧ F j k) = F j := fun j R hj => by funext k; rw [hj]; simp
  have key : ∀ j b, (∃ R, Rs[j]? = some R) ∧ F j b → G b → False := fun j b hF hg => by
    obtain ⟨⟨R, hR⟩, hF⟩ := hF;obtain ⟨c, t, r, hc2⟩ := hc R (List.mem_of_getElem? hR) w (F j) (h1 j R hR) b hF;obtain ⟨_, o, ho, hoc⟩ := hG b hg;rw [hc2] at ho
    injection ho with ho
    subst ho;cases hoc
  refine ⟨hb, fun j k => match j with | 0 => G k | j + 1 => (∃ R, Rs[j]? = some R) ∧ F j k, fun j S hj => ?_, fun j j' b hj hj' => ?_, fun j b hj => ?_⟩
  · cases j with
    | zero => simp at hj; subst hj; exact hR'
    | succ j => have hj2 : Rs[j]? = some S := (by simpa using hj); show S.says w (fun k => (∃ R, Rs[j]? = some R) ∧ F j k); rw [hin j S hj2]; exact h1 j S hj2
  · cases j <;> cases j'
    · rfl
    · exact (key _ _ hj' hj).elim
    · exact (key _ _ hj hj').elim
    · exact congrArg _ (h2 _ _ b hj.2 hj'.2)
  · cases j with
    | zero => exact ⟨(hG b hj).1, R'.lt w G hR' b hj⟩
    | succ j => exact h3 j b hj.2
theorem Sat.others {B : Nat} (h : Sat w0 w Rs) (hc : ∀ R ∈ Rs, Cellar R) (hB : w0.heap.size ≤ B) : Sat w0 w (SX.others B w :: Rs) :=
 h.addN (G := fun k => B ≤ k ∧ ∃ o : Obj, w.heap[k]? = some o ∧ o.isCells = false) _ hc ⟨Nat.le_refl _, fun _ => Iff.rfl, fun _ _ => rfl⟩ fun k hk => ⟨by have := hk.1; omega, hk.2⟩
theorem Sat.keepsFrom {B : Nat} {W : World} (h : Sat w0 w (SX.others B W :: Rs)) : KeepsFrom B W w := by
 obtain ⟨F, h1, _⟩ := h.at_ (i := 0) rfl
 exact ⟨h1.1, fun k o hB ho hoc => (h1.2.2 k ((h1.2.1 k).2 ⟨hB, o, ho, hoc⟩)).trans ho⟩
theorem Sat.addObj {D : Nat} {o : Obj} (h : Sat w0 w Rs) (hc : ∀ R ∈ Rs, Cellar R) (hD : w0.heap.size ≤ D) (ho : w.heap[D]? = some o) (hoc : o.isCells = false) : Sat w0 w (SX.obj D o :: Rs) :=
 h.addN (G := fun k => k = D) _ hc ⟨fun _ => Iff.rfl, ho⟩ fun k hk => by subst hk; exact ⟨hD, o, ho, hoc⟩
theorem Sat.putObj {D : Nat} {o o' : Obj} (h : Sat w0 w (SX.obj D o :: Rs)) : Sat w0 (w.putObj D o') Rs := by
 have h2 : Sat w0 (w.putObj D o') ((SX.obj D o :: Rs).set 0 (SX.obj D o')) := h.upd (i := 0) rfl _ rfl rfl rfl (by simp) fun F hF => ⟨F, ⟨hF.1, World.putObj_heap_same (Array.getElem?_eq_some_iff.1 hF.2).1⟩, fun _ hb => .inl hb, fun k _ hF' => World.putObj_heap_other (fun e => hF' ((hF.1 k).2 e))⟩
 exact Sat.rest [_] h2
def rndQ (w0 : World) (X : Asn) (J : List Asn → Prop) : Exit → Act → World → Prop
 | .normal, _, w => ∃ Rs, J Rs ∧ Sat w0 w (X :: Rs)
 | _, _, _ => False
theorem no_rnd {X : Asn} {J : List Asn → Prop} : NoOut (rndQ w0 X J) := fun a w h => h.elim
theorem no_asg {K : Act → World → Prop} : NoOut (Exit.then K fun _ _ _ => False) := fun _ _ h => h
theorem c_range {α : Type} {g : Operand} {p1 p2 : Nat} {assign body : Code} {gf : Nat} {lb : Array Value} {f1 f2 : α → Value} {S Sp : List α → Prop} {N : Nat} {Kp : World → World → Prop} {J : List α → List Asn → Prop} {ex : α → Env}
    (h : Has n e a) (hg : ev e g = some (.func (.func gf) #[] lb)) (eg : ∀ args w, (callFunc gf args).run P w = .ok (.enter gf args) w) (h12 : (Nat.blt p1 n && Nat.blt p2 n) = true) (hJ : J [] Rs) (hS : Sat w0 w Rs) (hc : ∀ pre Rs, J pre Rs → ∀ R ∈ Rs, Cellar R)
    (hseq : SeqStopsK Fence.wide 8 P gf lb (fun x => #[f1 x, f2 x]) Kp S Sp N w) (hKp : ∀ pre Rs A B, J pre Rs → Sat w0 B Rs → Kp A B) (hKt : ∀ {A B C : World}, Kp A B → Kp B C → Kp A C) (hKr : ∀ A, Kp A A)
    (hKb : ∀ (W : World) (l : Nat) (o o' : Obj), w.heap.size ≤ l → W.heap[l]? = some o → o.isCells = false → o.isWalk = false → Kp W (W.putObj l o'))
    (hassign : ∀ (l : Nat) (x : α) (a' : Act) (W : World) (K : Act → World → Prop), Has n ((p2, f2 x) :: (p1, f1 x) :: e) a' → (∀ b, Has n (ex x) b → K b W) → assign.wpIn (FR l) 7 P (Exit.then K fun _ _ _ => False) a' W)
    (hbody : ∀ (l : Nat) (pre : List α) (x : α) (a' : Act) (W : World) (X : Asn) (Rs : List Asn), pre.length < N → J pre Rs → Sat w0 W (X :: Rs) → Has n (ex x) a' → body.wpIn (FR l) 7 P (rndQ w0 X (J (pre ++ [x]))) a' W)
    (hdone : ∀ (D : Nat) (xs : List α) (W : World) (Rs : List Asn), S xs → J xs Rs → Sat w0 W (SX.obj D (.deferred (some [])) :: Rs) → Q .normal { a with defers := markD D } W) :
    (Code.rangeFunc g #[p1, p2] assign body).wp P Q a w := by
  have hB := hS.below.size
  refine wpIn_wide.1 (wpIn_rangeFunc_ownH (F := Fence.wide) (n := 9) (w0 := w) (gf := gf) (lb := lb) rfl (by decide) (h.ev hg) trivial eg hseq (fun {A B C} h1 h2 => hKt h1 h2) hKb (Below.refl _ _) (fun _ => rfl)
    (fun pre W => ∃ Rs, J pre Rs ∧ Sat w0 W Rs) (fun _ _ _ => False) (fun pre W W' row hs hg2 hr => ⟨hs.choose, hs.choose_spec.1, hs.choose_spec.2.other (hc pre _ hs.choose_spec.1) hB hg2 hr⟩) (fun _ _ _ _ _ hs _ _ => hs) ⟨Rs, hJ, hS⟩ (fun x a' _ => Has n (ex x) a') (fun x a' => ownFrom_pure _ (fun _ => Has n (ex x) a')) ?_ ?_ ?_ ?_)
  · intro l pre x W K hI hK
    refine hassign l x _ W K ?_ (fun b hb => hK b W (KeepsFrom.refl _ _) (hKr W) hI hb);simp only [Bool.and_eq_true, Nat.blt_eq] at h12;have h1 := (h.put p1 (f1 x) h12.1).put p2 (f2 x) h12.2
    have e1 : ((a.put (some p1) (f1 x)).put (some p2) (f2 x)) = { tmps := (#[p1, p2].zip #[f1 x, f2 x]).foldl (fun t (p, v) => t.setIfInBounds p v) a.tmps, defers := [] } := by
      have hd := h.defers;obtain ⟨t, ds⟩ := a;simp only at hd;subst hd
      simp [Act.put]
    rw [← e1];exact h1
  · intro l pre x a' W hl hr hI hA hN
    obtain ⟨Rs1, hJ1, hS1⟩ := hI;refine wpIn_mono (hbody l pre x a' W _ Rs1 hN hJ1 (hS1.others (hc pre _ hJ1) hB) hA) fun ex2 b w2 hq => ?_;cases ex2 with
    | normal => obtain ⟨Rs2, hJ2, hS2⟩ := hq; exact ⟨hS2.keepsFrom, hKp _ _ _ _ hJ2 (Sat.rest [_] hS2), Rs2, hJ2, Sat.rest [_] hS2⟩
    | _ => exact hq.elim
  · intro D xs W hD hSx hI hK
    obtain ⟨Rs1, hJ1, hS1⟩ := hI;have hd := h.defers;have := hdone D xs W Rs1 hSx hJ1 (hS1.addObj (hc xs _ hJ1) (Nat.le_trans hB hD) hK rfl);unfold markD at this;rw [hd];exact this
  · intro D c pre W hD hSp hIx
    exact hIx.elim
end
end SX
end Go.Proofs.Ytbgfiiehjaghiaa
