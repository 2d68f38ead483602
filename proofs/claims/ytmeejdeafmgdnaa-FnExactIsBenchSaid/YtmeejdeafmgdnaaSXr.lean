/- Rows of whole numbers: read, made, copied, cut; many rows as one piece. Over the walker's words. -/
import Derived.Test.YtmeejdeafmgdnaaSXc
import Derived.Test.YtmeejdeafmgdnaaWMore
import Derived.Lib.OwnBridge
namespace Go.Proofs.Ytmeejdeafmgdnaa
namespace SX
open Go.RowKit Go.Proofs.YtmeejdeafmgdnaaW.PrintWords

/-- Several pieces as one. -/
def starL (l : List Asn) : Asn where
  says w F := ∃ G : Nat → Nat → Prop, (∀ k, F k ↔ ∃ i, i < l.length ∧ G i k) ∧ (∀ i j k, i < l.length → j < l.length → G i k → G j k → i = j) ∧ ∀ (i : Nat) (R : Asn), l[i]? = some R → R.says w (G i)
  lt w F h k hk := by
    obtain ⟨G, h1, _, h3⟩ := h
    obtain ⟨i, hi, hg⟩ := (h1 k).1 hk
    exact (l[i]).lt w (G i) (h3 i _ (List.getElem?_eq_getElem hi)) k hg
  loc w w' F h hk := by
    obtain ⟨G, h1, h2, h3⟩ := h
    refine ⟨G, h1, h2, fun i R hi => R.loc w w' (G i) (h3 i R hi) fun b hb => hk b ((h1 b).2 ⟨i, (List.getElem?_eq_some_iff.1 hi).1, hb⟩)⟩
section
variable {w0 w : World} {Rs : List Asn}
theorem Sat.split {l : List Asn} (h : Sat w0 w (starL l :: Rs)) : Sat w0 w (l ++ Rs) := by
  obtain ⟨hb, F, h1, h2, h3⟩ := h
  obtain ⟨G, g1, g2, g3⟩ := h1 0 _ rfl
  refine ⟨hb, fun j b => if j < l.length then G j b else F (j - l.length + 1) b, fun j S hj => ?_, fun j j' b hj hj' => ?_, fun j b hj => ?_⟩
  · by_cases hl : j < l.length
    · rw [List.getElem?_append_left hl] at hj
      simp only [hl, if_true]
      exact g3 j S hj
    · rw [List.getElem?_append_right (by omega)] at hj
      simp only [hl, if_false]
      exact h1 (j - l.length + 1) S (by simpa using hj)
  · dsimp only at hj hj'
    split at hj <;> split at hj'
    · rename_i a b; exact g2 j j' _ a b hj hj'
    · rename_i a _; have := h2 0 _ _ ((g1 _).2 ⟨j, a, hj⟩) hj'; omega
    · rename_i _ a; have := h2 0 _ _ ((g1 _).2 ⟨j', a, hj'⟩) hj; omega
    · have := h2 _ _ _ hj hj'; omega
  · dsimp only at hj
    split at hj
    · rename_i a; exact h3 0 b ((g1 b).2 ⟨j, a, hj⟩)
    · exact h3 _ b hj
theorem Sat.merge {l : List Asn} (h : Sat w0 w (l ++ Rs)) : Sat w0 w (starL l :: Rs) := by
  obtain ⟨hb, F, h1, h2, h3⟩ := h
  refine ⟨hb, fun j b => match j with | 0 => ∃ i, i < l.length ∧ F i b | j + 1 => F (j + l.length) b, fun j S hj => ?_, fun j j' b hj hj' => ?_, fun j b hj => ?_⟩
  · cases j with
    | zero =>
      simp at hj
      subst hj
      refine ⟨F, fun _ => Iff.rfl, fun i j k _ _ hi hj => h2 i j k hi hj, fun i R hi => h1 i R ?_⟩
      rw [List.getElem?_append_left (List.getElem?_eq_some_iff.1 hi).1]
      exact hi
    | succ j =>
      refine h1 (j + l.length) S ?_
      rw [List.getElem?_append_right (by omega)]
      simpa using hj
  · cases j <;> cases j'
    · rfl
    · obtain ⟨i, hi, hf⟩ := hj
      have := h2 _ _ b hf hj'; omega
    · obtain ⟨i, hi, hf⟩ := hj'
      have := h2 _ _ b hj hf; omega
    · have := h2 _ _ b hj hj'; omega
  · cases j with
    | zero => obtain ⟨i, hi, hf⟩ := hj; exact h3 i b hf
    | succ j => exact h3 _ b hj
/-- One more of many, the last. -/
theorem Sat.gainLast {R : Asn} {l : List Asn} (h : Sat w0 w (R :: starL l :: Rs)) : Sat w0 w (starL (l ++ [R]) :: Rs) := by
  have h1 : Sat w0 w ([starL l, R] ++ Rs) := h.pickR (l := [R, starL l]) [1, 0] (by decide) _ rfl
  have h2 : Sat w0 w (l ++ R :: Rs) := Sat.split h1
  have h3 : Sat w0 w ((l ++ [R]) ++ Rs) := by simpa using h2
  exact h3.merge
/-- One more of many. -/
theorem Sat.gain {R : Asn} {l : List Asn} (h : Sat w0 w (R :: starL l :: Rs)) : Sat w0 w (starL (R :: l) :: Rs) := by
  have h1 : Sat w0 w ([starL l, R] ++ Rs) := h.pickR (l := [R, starL l]) [1, 0] (by decide) _ rfl
  have h2 : Sat w0 w (l ++ R :: Rs) := Sat.split h1
  have h3 : Sat w0 w ((l ++ [R]) ++ Rs) := by simpa using h2
  have e : ((List.range (l.length + 1)).map fun i => if i = 0 then l.length else i - 1).mapM (fun i => (l ++ [R])[i]?) = some (R :: l) := by
    rw [List.range_succ_eq_map]
    simp only [List.map_cons, List.map_map, if_true]
    rw [List.mapM_cons]
    have e1 : (l ++ [R])[l.length]? = some R := by simp
    have e2 : ((List.range l.length).map ((fun i => if i = 0 then l.length else i - 1) ∘ Nat.succ)).mapM (fun i => (l ++ [R])[i]?) = some l := by
      have : (List.range l.length).map ((fun i => if i = 0 then l.length else i - 1) ∘ Nat.succ) = List.range l.length := by
        refine (List.map_congr_left fun i _ => ?_).trans (List.map_id _)
        simp
      rw [this]
      clear this h h1 h2 h3 e1
      have key : ∀ (l : List Asn) (m : List Asn) , (List.range l.length).mapM (fun i => (l ++ m)[i]?) = some l := by
        intro l
        induction l with
        | nil => intro m; rfl
        | cons x l ih =>
          intro m
          rw [List.length_cons, List.range_succ_eq_map, List.mapM_cons]
          have := ih m
          rw [List.mapM_map]
          simp only [Function.comp_def, Nat.succ_eq_add_one, List.cons_append, List.getElem?_cons_succ, List.getElem?_cons_zero]
          rw [this]
          rfl
      exact key l [R]
    rw [e1, e2]
    rfl
  refine (h3.pickR _ ?_ _ e).merge
  refine List.pairwise_map.2 (List.Pairwise.imp_of_mem (fun {x y} hx hy hlt => ?_) List.pairwise_lt_range)
  simp only [List.mem_range] at hx hy
  intro hxy
  split at hxy <;> split at hxy <;> omega
end

/-- A slice's three words. -/
structure Sl where
  A : Option Addr
  n : Nat
  c : Nat
abbrev Sl.v (s : Sl) : Value := .slice s.A s.n s.c
def encI (l : List Int) : List Value := l.map fun x => .int .i64 x
theorem encI_length (l : List Int) : (encI l).length = l.length := by simp [encI]
theorem encI_snoc (l : List Int) (x : Int) : encI l ++ [.int .i64 x] = encI (l ++ [x]) := by simp [encI]
def encS (l : List Sl) : List Value := l.map Sl.v
theorem encS_length (l : List Sl) : (encS l).length = l.length := by simp [encS]
theorem encS_snoc (l : List Sl) (x : Sl) : encS l ++ [.slice x.A x.n x.c] = encS (l ++ [x]) := by simp [encS]

def bk (s : Sl) : Nat := (s.A.getD default).block
def of_ (s : Sl) : Nat := (s.A.getD default).off
/-- A slice whose whole numbers can be read. -/
structure RdI (w : World) (s : Sl) (l : List Int) : Prop where
  len : s.n = l.length
  le : l.length ≤ s.c
  rd : Kd.C (Kd.int .i64) w s.A l.length l
theorem spot_of_cell {w : World} {ad : Addr} {v : Value} (h : w.cell? (ad.add 0) = some v) : ad.spot = none := by
  simp only [Addr.add, if_true] at h
  unfold World.cell? at h
  split at h
  · split at h
    · cases h
    · rename_i hs; simpa using hs
  · cases h
section
variable {w0 w w' : World} {Rs : List Asn} {s : Sl} {l : List Int}
theorem RdI.at_ (h : RdI w s l) {j : Nat} (hj : j < l.length) : s.A = some ⟨bk s, of_ s, none⟩ ∧ w.cell? ⟨bk s, of_ s + j, none⟩ = some (.int .i64 (l.getD j 0)) := by
  obtain ⟨_, _, h3⟩ := h.rd
  have hp : 0 < l.length := by omega
  obtain ⟨ad, hA, hc⟩ := h3 hp
  have hcell : ∀ j, j < l.length → w.cell? (ad.add j) = some (.int .i64 (l.getD j 0)) := fun j hj => by
    obtain ⟨c, _, hk, hu⟩ := hc j _ (List.getElem?_eq_getElem hj)
    have e : c = [.int .i64 l[j]] := hk
    subst e
    have := hu 0 _ rfl
    simpa [Kd.int, Kd.scalar, List.getD, hj] using this
  have hspot := spot_of_cell (hcell 0 hp)
  obtain ⟨b, off, sp⟩ := ad
  subst hspot
  have := hcell j hj
  rw [add0] at this
  refine ⟨by simp [bk, of_, hA], ?_⟩
  simpa [bk, of_, hA] using this
theorem RdI.below (h : RdI w s l) (hb : Below w.heap.size w w') : RdI w' s l := ⟨h.len, h.le, Kd.C_below h.rd hb⟩
theorem RdI.sat (h : RdI w0 s l) (hS : Sat w0 w Rs) : RdI w s l := h.below hS.below
theorem RdI.big (h : RdI w s l) : l.length ≤ 9223372036854775807 := h.rd.2.1
theorem RdI.ofRow {T : TypeId} {base n : Nat} (h : w.ownsRow base T 1 s.v n (encI l)) : RdI w s l := by
  have hl : l.length = n := by have := h.1; simpa [encI] using this
  subst hl
  have hn : s.n = l.length := by
    rcases h.2 with ⟨e, h0⟩ | ⟨g, cap, cur, e, _⟩
    · have := congrArg (fun v => match v with | Value.slice _ n _ => n | _ => 0) e
      simp at this
      omega
    · have := congrArg (fun v => match v with | Value.slice _ n _ => n | _ => 0) e
      simpa using this
  have hc : l.length ≤ s.c := by
    rcases h.2 with ⟨e, h0⟩ | ⟨g, cap, cur, e, _, _, h1, _⟩
    · omega
    · have := congrArg (fun v => match v with | Value.slice _ _ c => c | _ => 0) e
      simp at this
      omega
  refine ⟨hn, hc, ?_⟩
  have h' := h
  rw [Sl.v, hn] at h'
  exact Kd.C_of_reads (d := (0 : Int)) (own_reads' h')
theorem Sat.rdRow {T : TypeId} (h : Sat w0 w Rs) (i : Nat) (hi : Rs[i]? = some (SX.row s.v T 1 (encI l))) : RdI w s l := by
  obtain ⟨n, hn⟩ := h.row i hi
  exact RdI.ofRow hn

theorem RdI.take (h : RdI w s l) {j : Nat} (hj : j ≤ l.length) : RdI w ⟨s.A, j, s.c⟩ (l.take j) := by
  have hl : (l.take j).length = j := by rw [List.length_take]; omega
  refine ⟨hl.symm, by rw [hl]; exact Nat.le_trans hj h.le, ?_⟩
  obtain ⟨_, h2, h3⟩ := h.rd
  refine ⟨rfl, by rw [hl]; omega, fun hp => ?_⟩
  rw [hl] at hp
  obtain ⟨ad, hA, hc⟩ := h3 (by omega)
  refine ⟨ad, hA, fun i p hi => hc i p ?_⟩
  rw [List.getElem?_take] at hi
  split at hi
  · exact hi
  · cases hi
/-- What a call has made, beside what was there. -/
theorem Sat.comp {Ps : List Asn} (h : Sat w0 w Rs) (hp : Sat w w' Ps) : Sat w0 w' (Ps ++ Rs) := by
  obtain ⟨hb, F, h1, h2, h3⟩ := h
  obtain ⟨hb', G, g1, g2, g3⟩ := hp
  have hs0 : w0.heap.size ≤ w.heap.size := hb.size
  refine ⟨hb.trans (hb'.mono hs0), fun j b => if j < Ps.length then G j b else F (j - Ps.length) b, fun j S hj => ?_, fun j j' b hj hj' => ?_, fun j b hj => ?_⟩
  · by_cases hl : j < Ps.length
    · rw [List.getElem?_append_left hl] at hj
      simp only [hl, if_true]
      exact g1 j S hj
    · rw [List.getElem?_append_right (by omega)] at hj
      simp only [hl, if_false]
      exact S.loc w w' _ (h1 _ S hj) fun b hF => hb'.block b (h3 _ b hF).2
  · dsimp only at hj hj'
    split at hj <;> split at hj'
    · exact g2 _ _ b hj hj'
    · have := (g3 _ b hj).1; have := (h3 _ b hj').2; omega
    · have := (g3 _ b hj').1; have := (h3 _ b hj).2; omega
    · have := h2 _ _ b hj hj'; omega
  · dsimp only at hj
    split at hj
    · have := g3 _ b hj; omega
    · have h4 := h3 _ b hj; have h5 : w.heap.size ≤ w'.heap.size := hb'.size; omega
/-- A slice whose cells are known as they are. -/
structure RdV (w : World) (s : Sl) (vs : List Value) : Prop where
  len : s.n = vs.length
  le : vs.length ≤ s.c
  cells : ∀ j, j < vs.length → s.A = some ⟨bk s, of_ s, none⟩ ∧ w.cell? ⟨bk s, of_ s + j, none⟩ = vs[j]?
theorem Sat.rdV {T : TypeId} {vs : List Value} (h : Sat w0 w Rs) (i : Nat) (hi : Rs[i]? = some (SX.row s.v T 1 vs)) : RdV w s vs := by
  obtain ⟨n, h1, h2⟩ := h.row i hi
  simp only [Nat.mul_one] at h1
  obtain ⟨A, sn, sc⟩ := s
  rcases h2 with ⟨e, h0⟩ | ⟨g, cap, cur, e, _, hg, h3, h4, h5, h6⟩
  · simp only [Sl.v, Value.slice.injEq] at e
    obtain ⟨rfl, rfl, rfl⟩ := e
    have : vs = [] := List.eq_nil_of_length_eq_zero (by omega)
    subst this
    exact ⟨rfl, Nat.le_refl _, fun j hj => absurd hj (Nat.not_lt_zero _)⟩
  · simp only [Sl.v, Value.slice.injEq] at e
    obtain ⟨rfl, rfl, rfl⟩ := e
    refine ⟨by simp [h1], by simp only []; omega, fun j hj => ⟨rfl, ?_⟩⟩
    have hc := cell_of_row w g j cur T (0, 0) hg
    show w.cell? ⟨g, 0 + j, none⟩ = vs[j]?
    rw [Nat.zero_add, hc, ← h6, List.getElem?_take]
    simp only [Nat.mul_one]
    rw [if_pos (by omega), Array.getElem?_toList]
/-- Many rows of whole numbers. -/
def rowsI (T : TypeId) (us : List (Sl × List Int)) : Asn := starL (us.map fun x => SX.row x.1.v T 1 (encI x.2))
theorem Sat.rdRows {T : TypeId} {us : List (Sl × List Int)} (h : Sat w0 w Rs) (i : Nat) (hi : Rs[i]? = some (rowsI T us)) (hx : (s, l) ∈ us) : RdI w s l := by
  obtain ⟨F, ⟨G, h1, _, h3⟩, _⟩ := h.at_ hi
  obtain ⟨j, hj⟩ := List.getElem?_of_mem hx
  obtain ⟨_, n, hn⟩ := h3 j (SX.row s.v T 1 (encI l)) (by rw [List.getElem?_map, hj]; rfl)
  exact RdI.ofRow hn
theorem Sat.gainRow {T : TypeId} {us : List (Sl × List Int)} (h : Sat w0 w (SX.row s.v T 1 (encI l) :: rowsI T us :: Rs)) : Sat w0 w (rowsI T ((s, l) :: us) :: Rs) := h.gain

/-- Behind a call that has made one row. -/
theorem Sat.made (h : Sat w0 w Rs) {v : Value} {T : TypeId} {sz n : Nat} {xs : List Value} (hb : Below w.heap.size w w') (ho : w'.ownsRow w.heap.size T sz v n xs) : Sat w0 w' (SX.row v T sz xs :: Rs) := by
  refine h.new _ hb.os hb.tape hb.output hb.size (fun b hlt => hb.block b hlt) ⟨fun k => v.ownBlock = some k, ⟨fun _ => Iff.rfl, n, own_weaken ho (Nat.zero_le _)⟩, fun k hk => own_base ho k hk⟩
theorem ownsRow_sl {T : TypeId} {sz base n : Nat} {v : Value} {xs : List Value} (h : w.ownsRow base T sz v n xs) : ∃ s : Sl, v = s.v ∧ s.n = n := by
  rcases h.2 with ⟨rfl, rfl⟩ | ⟨g, cap, cur, rfl, _⟩
  · exact ⟨⟨none, 0, 0⟩, rfl, rfl⟩
  · exact ⟨⟨_, n, cap⟩, rfl, rfl⟩
end
/-- It returns. -/
def Ret (R : Value → World → Prop) : Ending → World → Prop
  | .returned v, w => R v w
  | _, _ => False
section
variable {P : Program} {R : Array Oper} {Q : Exit → Act → World → Prop} {n : Nat} {e : Env} {a : Act} {w w0 : World} {Rs : List Asn}
/-- '&xs[i]' of a slice whose address is known. -/
theorem v_indexR {S : World → Prop} {i d : Nat} {t el : TypeId} {x ix : Operand} {ty : TypeId} {s : Sl} {sz j : Nat} {k : IntKind} (h : Has n e a) (ho : AtW R i (.indexAddr t x ix) (some d) ty a)
    (hx : ev e x = some (.slice s.A s.n s.c)) (hi : ev e ix = some (.int k (j : Int))) (ht : P.underlying t = some (.slice el)) (hs : (P.info? el).map (·.size) = some sz) (hA : s.A = some ⟨bk s, of_ s, none⟩) (h1 : j < s.n) :
    Val P R i a S d (.pointer (some ⟨bk s, of_ s + j * sz, none⟩)) := by
  have := v_index (S := S) (q := (j : Int)) (off := of_ s) (b := bk s) (len := s.n) (cap := s.c) h ho (by rw [hx, hA]) hi ht hs (by omega) (by omega)
  simpa using this
/-- The same where the index is reckoned otherwise. -/
theorem v_indexQ {S : World → Prop} {i d : Nat} {t el : TypeId} {x ix : Operand} {ty : TypeId} {s : Sl} {sz j : Nat} {k : IntKind} {q : Int} (h : Has n e a) (ho : AtW R i (.indexAddr t x ix) (some d) ty a)
    (hx : ev e x = some (.slice s.A s.n s.c)) (hi : ev e ix = some (.int k q)) (ht : P.underlying t = some (.slice el)) (hs : (P.info? el).map (·.size) = some sz) (hA : s.A = some ⟨bk s, of_ s, none⟩) (hq : q = (j : Int)) (h1 : j < s.n) :
    Val P R i a S d (.pointer (some ⟨bk s, of_ s + j * sz, none⟩)) := v_indexR h ho hx (hq ▸ hi) ht hs hA h1
/-- 'xs[:j]'. -/
theorem v_take {S : World → Prop} {i d : Nat} {t el : TypeId} {x y : Operand} {ty : TypeId} {A : Option Addr} {m c j : Nat} {q : Int} (h : Has n e a) (ho : AtW R i (.slice t x none (some y) none) (some d) ty a)
    (hx : ev e x = some (.slice A m c)) (hy : ev e y = some (.int .i64 q)) (ht : P.underlying t = some (.slice el)) (hs : (P.info? el).map (·.size) = some 1) (hq : q = (j : Int)) (hj : j ≤ m) (hm : m ≤ c) :
    Val P R i a S d (.slice A j c) :=
  Val.of_run ho fun o w h1 h2 hS => by
    subst hq
    rw [exec_eq h h1 h2 (by simp [covers, Op.operands, hx, hy, notSelect])]
    obtain ⟨ti, hti, hsz⟩ := Option.map_eq_some_iff.1 hs
    have hr := (print_take_int (P := P) (k := .i64) t el ht hti hsz A c (List.replicate m 0) (j : Int) (by omega) (by simp; omega) (by simpa using hm)).1 w
    simp only [List.length_replicate, Int.toNat_natCast, List.length_take] at hr
    rw [Nat.min_eq_left hj] at hr
    have hu : P.underlying t = some (.slice el) := ht
    simp [execOp, opr, evD, hx, hy, Instr.sliceAt, underlying, hu, hr]
/-- A slice whose elements (of type T, k cells each) can be loaded, whatever they are. -/
structure RdL {α : Type} (P : Program) (T : TypeId) (k : Nat) (enc : α → Value) (w : World) (s : Sl) (l : List α) : Prop where
  len : s.n = l.length
  le : l.length ≤ s.c
  cells : ∀ (j : Nat) (x : α), l[j]? = some x → s.A = some ⟨bk s, of_ s, none⟩ ∧ (loadVar T ⟨bk s, of_ s + j * k, none⟩).run P w = .ok (enc x) w
theorem v_loadL {S : World → Prop} {i d : Nat} {t : TypeId} {x : Operand} {ty : TypeId} {p : Addr} {v : Value} (h : Has n e a) (ho : AtW R i (.load t x) (some d) ty a) (hx : ev e x = some (.pointer (some p)))
    (hb : ∀ w, S w → (loadVar t p).run P w = .ok v w) : Val P R i a S d v :=
  Val.of_run ho fun o w h1 h2 hS => by
    rw [exec_eq h h1 h2 (by simp [covers, Op.operands, hx, notSelect])]
    have hr := hb w hS
    simp [execOp, opr, Instr.loadAt, Instr.sureAddr, evD, hx, hr]
/-- 'make([]T, m)' of elements of one cell. -/
theorem o_make {i d : Nat} {x y : Operand} {t el ty : TypeId} {m bytes : Nat} {z : Value} {K : Act → World → Prop} (h : Has n e a) (hd : d < n) (ho : AtW R i (.makeSlice t x y) (some d) ty a) (hx : ev e x = some (.int .i64 (m : Int))) (hy : ev e y = some (.int .i64 (m : Int)))
    (ht : P.underlying t = some (.slice el)) (hinfo : (P.info? el).map (fun i => (i.zero, i.size, i.bytes)) = some (some z, 1, bytes)) (hz : z.cells = #[z]) (hb0 : 0 < bytes) (hn : m * bytes ≤ 281474976710656) (hS : Sat w0 w Rs)
    (k : ∀ b w' a', w0.heap.size ≤ b → Sat w0 w' (SX.blk b (List.replicate m z) el :: Rs) → Has n ((d, .slice (some ⟨b, 0, none⟩) m m) :: e) a' → K a' w') : wpOp P R Q i K a w := by
  have hl : madeCells #[z] m = (List.replicate m z).toArray := by
    apply Array.ext_getElem?
    intro j
    by_cases hj : j < m <;> simp [madeCells, hj, Nat.mod_one]
  refine o_new (cs := List.replicate m z) (T := el) (fun b => .slice (some ⟨b, 0, none⟩) m m) h hd ho (by simp [covers, Op.operands, hx, hy, notSelect]) hS (fun w => ?_) k
  have hr := print_make_of (P := P) t el z bytes ht hinfo hz hb0 m hn w
  rw [hl] at hr
  simp [execOp, opr, evD, hx, hy, hr]
/-- A call by a contract that returns. -/
theorem o_ret {i d f : Nat} {xs : Array Operand} {ts : Array TypeId} {ty : TypeId} {vs : List Value} {fn : Func} {Post : Value → World → Prop} {K : Act → World → Prop} (h : Has n e a) (hd : d < n)
    (ho : AtW R i (.call { callee := .value (.func f), args := xs, argTypes := ts }) (some d) ty a) (hx : xs.toList.mapM (ev e) = some vs) (hf : P.funcs[f]? = some fn) (hb : (fn.body.isNone || fn.name == "runtime.NumGoroutine") = false)
    (hcall : Calls P f vs.toArray w (Ret Post)) (kr : ∀ v w' a', Post v w' → Has n ((d, v) :: e) a' → K a' w') : wpOp P R Q i K a w :=
  o_call h hd ho hx hf hb hcall (fun v w' a' hp ha => kr v w' a' hp ha) (fun _ _ hp => hp.elim) (fun _ hp => hp)
/-- A call of a function value. -/
theorem o_retF {i d f t : Nat} {cap : List Value} {xs : Array Operand} {ts : Array TypeId} {ty : TypeId} {vs : List Value} {fn : Func} {Post : Value → World → Prop} {K : Act → World → Prop} (h : Has n e a) (hd : d < n)
    (ho : AtW R i (.call { callee := .value (.tmp t), args := xs, argTypes := ts }) (some d) ty a) (hx : xs.toList.mapM (ev e) = some vs) (ht : lk e t = some (.func (.func f) #[] cap.toArray)) (hf : P.funcs[f]? = some fn) (hb : (fn.body.isNone || fn.name == "runtime.NumGoroutine") = false)
    (hcall : Calls P f (vs ++ cap).toArray w (Ret Post)) (kr : ∀ v w' a', Post v w' → Has n ((d, v) :: e) a' → K a' w') : wpOp P R Q i K a w :=
  o_callF h hd ho hx ht hf hb hcall (fun v w' a' hp ha => kr v w' a' hp ha) (fun _ _ hp => hp.elim) (fun _ hp => hp)
end
section
variable {w0 w : World} {Rs : List Asn}
/-- A row of whole numbers that the call made, as the printer tells it. -/
theorem Sat.kdI {s : Sl} {l : List Int} {T : TypeId} {ok : Nat → Prop} (h : Sat w0 w Rs) (i : Nat) (hi : Rs[i]? = some (SX.row s.v T 1 (encI l))) (hok : ∀ k, s.v.ownBlock = some k → ok k) : Kd.R (Kd.int .i64) T w w0.heap.size ok s.v l := by
  obtain ⟨F, ⟨h1, n, hn⟩, h3⟩ := h.at_ hi
  have hl : l.length = n := by have := hn.1; simpa [encI] using this
  subst hl
  refine Kd.R_of_own (xs := l) (enc := Value.int .i64) ⟨by simp [encs], ?_⟩ hok
  rcases hn.2 with hn' | ⟨g, cap, cur, e, _, rest⟩
  · exact .inl hn'
  · refine .inr ⟨g, cap, cur, e, ?_, rest⟩
    exact (h3 g ((h1 g).2 (by rw [e]; rfl))).1
/-- The same of one of many. -/
theorem Sat.kdIs {s : Sl} {l : List Int} {us : List (Sl × List Int)} {T : TypeId} {ok : Nat → Prop} (h : Sat w0 w Rs) (i : Nat) (hi : Rs[i]? = some (rowsI T us)) (hx : (s, l) ∈ us)
    (hok : ∀ k, s.v.ownBlock = some k → ok k) : Kd.R (Kd.int .i64) T w w0.heap.size ok s.v l := by
  obtain ⟨F, ⟨G, h1, _, h3⟩, h4⟩ := h.at_ hi
  obtain ⟨j, hj⟩ := List.getElem?_of_mem hx
  obtain ⟨g1, n, hn⟩ := h3 j (SX.row s.v T 1 (encI l)) (by rw [List.getElem?_map, hj]; rfl)
  have hjl : j < (us.map fun x => SX.row x.1.v T 1 (encI x.2)).length := by rw [List.length_map]; exact (List.getElem?_eq_some_iff.1 hj).1
  have hl : l.length = n := by have := hn.1; simpa [encI] using this
  subst hl
  refine Kd.R_of_own (xs := l) (enc := Value.int .i64) ⟨by simp [encs], ?_⟩ hok
  rcases hn.2 with hn' | ⟨g, cap, cur, e, _, rest⟩
  · exact .inl hn'
  · refine .inr ⟨g, cap, cur, e, ?_, rest⟩
    exact (h4 g ((h1 g).2 ⟨j, hjl, (g1 g).2 (by rw [e]; rfl)⟩)).1
/-- Two pieces' blocks are apart. -/
theorem Sat.away {s t : Sl} {l : List Int} {us : List (Sl × List Int)} {T T' sz : Nat} {xs : List Value} (h : Sat w0 w Rs) (i j : Nat) (hij : i ≠ j) (hi : Rs[i]? = some (rowsI T us)) (hj : Rs[j]? = some (SX.row t.v T' sz xs)) (hx : (s, l) ∈ us) :
    ∀ k, s.v.ownBlock = some k → some k ≠ t.v.ownBlock := by
  intro k hk he
  obtain ⟨_, F, h1, h2, _⟩ := h
  obtain ⟨G, g1, _, g3⟩ := h1 i _ hi
  obtain ⟨q, hq⟩ := List.getElem?_of_mem hx
  obtain ⟨g4, _⟩ := g3 q (SX.row s.v T 1 (encI l)) (by rw [List.getElem?_map, hq]; rfl)
  have hql : q < (us.map fun x => SX.row x.1.v T 1 (encI x.2)).length := by rw [List.length_map]; exact (List.getElem?_eq_some_iff.1 hq).1
  have a1 : F i k := (g1 k).2 ⟨q, hql, (g4 k).2 hk⟩
  have a2 : F j k := ((h1 j _ hj).1 k).2 he.symm
  exact hij (h2 i j k a1 a2)
theorem Sat.away2 {s t : Sl} {T T' sz sz' : Nat} {xs xs' : List Value} (h : Sat w0 w Rs) (i j : Nat) (hij : i ≠ j) (hi : Rs[i]? = some (SX.row s.v T sz xs)) (hj : Rs[j]? = some (SX.row t.v T' sz' xs')) :
    ∀ k, s.v.ownBlock = some k → some k ≠ t.v.ownBlock := by
  intro k hk he
  obtain ⟨_, F, h1, h2, _⟩ := h
  have a1 : F i k := ((h1 i _ hi).1 k).2 hk
  have a2 : F j k := ((h1 j _ hj).1 k).2 he.symm
  exact hij (h2 i j k a1 a2)
end
/-- Whatever the printer's words tell of what was made from block B on, as a piece. -/
def kdP {α : Type} (B : Nat) (d : Kd α) (e : Nat) (v : Value) (l : List α) : Asn where
  says w F := (∀ k, F k → k < w.heap.size) ∧ d.R e w B F v l
  lt _ _ h k hk := h.1 k hk
  loc _ _ _ h hk := ⟨fun k hF => lt_of_get (hk k hF) (h.1 k hF), Kd.R_move h.2 hk⟩
section
variable {w0 w w' : World} {Rs : List Asn}
theorem Sat.kdMade {α : Type} {d : Kd α} {e : Nat} {v : Value} {l : List α} {ok : Nat → Prop} (h : Sat w0 w Rs) (hb : Below w.heap.size w w') (hR : d.R e w' w.heap.size ok v l) : Sat w0 w' (kdP w0.heap.size d e v l :: Rs) := by
  refine h.new _ hb.os hb.tape hb.output hb.size (fun b hlt => hb.block b hlt) ⟨fun k => w.heap.size ≤ k ∧ k < w'.heap.size, ⟨fun k hk => hk.2, ?_⟩, fun k hk => hk.1⟩
  exact Kd.R_lower (Kd.R_mono (Kd.R_bound hR) fun k hk => ⟨hk.2.1, hk.2.2.1⟩) h.below.size
theorem Sat.kdGet {α : Type} {d : Kd α} {e : Nat} {v : Value} {l : List α} (h : Sat w0 w Rs) (i : Nat) (hi : Rs[i]? = some (kdP w0.heap.size d e v l)) : d.R e w w0.heap.size (fun _ => True) v l := by
  obtain ⟨F, h1, _⟩ := h.at_ hi
  exact Kd.R_mono h1.2 fun _ _ => trivial
end
/-- What a row of rows that is read says, cell by cell. -/
theorem rows_cells {α : Type} {d : Kd α} {e : Nat} {w : World} {s : Sl} {L : List (List α)} (hr : Kd.C (Kd.slice e d) w s.A L.length L) (j : Nat) (b : List α) (hj : L[j]? = some b) :
    s.A = some ⟨bk s, of_ s, none⟩ ∧ ∃ A' c', w.cell? ⟨bk s, of_ s + j, none⟩ = some (.slice A' b.length c') ∧ b.length ≤ c' ∧ Kd.C d w A' b.length b := by
  obtain ⟨_, _, h3⟩ := hr
  have hjl : j < L.length := (List.getElem?_eq_some_iff.1 hj).1
  obtain ⟨ad, hA, hcells⟩ := h3 (by omega)
  have key : ∀ (j : Nat) (b : List α), L[j]? = some b → ∃ A' c', w.cell? (ad.add j) = some (.slice A' b.length c') ∧ b.length ≤ c' ∧ Kd.C d w A' b.length b := fun j b hj => by
    obtain ⟨cs, _, ⟨A', c', rfl, h4, h5⟩, hu⟩ := hcells j b hj
    have := hu 0 _ rfl
    exact ⟨A', c', by simpa [Kd.slice] using this, h4, h5⟩
  obtain ⟨A0, c0, h0, _⟩ := key 0 _ (List.getElem?_eq_getElem (by omega))
  have hspot := spot_of_cell h0
  obtain ⟨bb, off, sp⟩ := ad
  subst hspot
  have e1 : bk s = bb := by simp [bk, hA]
  have e2 : of_ s = off := by simp [of_, hA]
  rw [e1, e2]
  obtain ⟨A', c', h6, h7, h8⟩ := key j b hj
  rw [add0] at h6
  exact ⟨hA, A', c', h6, h7, h8⟩
end SX
end Go.Proofs.Ytmeejdeafmgdnaa
