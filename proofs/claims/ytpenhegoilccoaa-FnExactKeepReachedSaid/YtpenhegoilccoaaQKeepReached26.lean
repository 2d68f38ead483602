/- What the claim FnExactKeepReached rests on, part 26 of 27; the last part proves it: for every input the law answers true, and its arguments read behind the call as before it. No condition. -/
import Derived.Test.YtpenhegoilccoaaQKeepReached12
import Derived.Test.YtpenhegoilccoaaQKeepReached19
import Derived.Test.YtpenhegoilccoaaQKeepReached21
import Derived.Test.YtpenhegoilccoaaQKeepReached24
import Derived.Test.YtpenhegoilccoaaQKeepReached25
set_option linter.unusedSimpArgs false
set_option linter.unusedVariables false
set_option maxRecDepth 20000
set_option maxHeartbeats 1000000
namespace Go.Proofs.Ytpenhegoilccoaa.G
open Go.RowKit Go.Proofs.Ytpenhegoilccoaa.SX Go.Proofs.YtpenhegoilccoaaW.PrintWords Go.Proofs.YtpenhegoilccoaaW.PrintLast Go.Proofs.YtpenhegoilccoaaW.PrintMore
theorem okJ_of {l : List (List ST)} {b : List ST} (h : programB l = true) (hb : b ∈ l) : okJ b ∧ b.length ≤ 8 := by
  have hP := progOk_of h
  refine ⟨fun x hx h11 => ?_, ?_⟩
  · exact ((hP.steps (b.map toStp) (List.mem_map_of_mem hb) (toStp x) (List.mem_map_of_mem hx)).j h11).1
  · have := hP.short (b.map toStp) (List.mem_map_of_mem hb)
    rwa [List.length_map] at this
theorem okF_prog {l : List (List ST)} {f : Int} (h : okF l f = true) : programB l = true := by
 rw [okF, Bool.and_eq_true] at h
 exact h.1
theorem take_next' {l : List Int} {i : Nat} {y : Int} (h : l[i]? = some y) : l.take (i + 1) = l.take i ++ [y] := by rw [List.take_add_one, h]; rfl
theorem putL_len : ∀ (l o : List Int), (putL o l).length ≤ o.length + l.length
 | [], o => Nat.le_refl _
 | x :: l, o => by
  have h1 := putL_len l (put1 o x)
  have h2 := put1_len x o
  show (putL (put1 o x) l).length ≤ _
  simp only [List.length_cons]
  omega
theorem code81 : Try.f81.body = some (Code.seq (cr Try.f81 0 false) (Code.seq (cr Try.f81 1 false) Code.ret)) := by kernel_rfl
theorem ocont_sat0 {w0 : World} {se : Sl} {es : List Int} {x : Int} (hre : RdI w0 se es) :
  Calls Try.prog 81 #[.slice se.A se.n se.c, .int .i64 x] w0 (Ret fun r w' => r = .bool (es.contains x) ∧ Sat w0 w' []) := by
 have hS : Sat w0 w0 [] := Sat.start w0
 have hxx := idxI_le es x
 have hbig := hre.big
 refine enter (n := 9) Try.func81 code81 (by kernel_rfl) (Nat.le_of_ble_eq_true rfl) (fun a ha => ?_)
 replace ha : Has 9 [(0, .slice se.A se.n se.c), (1, iv x)] a := ha
 refine wp_seq (jX [0] (jY [(0, 4, .bool false)] ha fun a ha => ?_))
 refine jZ (jJ (wp_seq (jX [0, 1, 2, 3, 4] (jY [(0, 5, .slice se.A se.n se.c), (1, 6, iv x)] ha fun a ha => ?_))))
 refine jV (qK 7 (vs := [.slice se.A se.n se.c, iv x]) ha (bidx_sat hS (hre.sat hS)) fun v1 w a hp2 ha => ?_)
 obtain ⟨rfl, hS⟩ := hp2
 refine jY [(3, 8, .bool (decide ((idxI es x) ≥ 0))), (4, 4, .bool (decide ((idxI es x) ≥ 0)))] ha fun a ha => ?_
 refine jZ (jJ (wp_ret (qQ ha (by kernel_rfl) (qU (t := 4) ha rfl) ?_)))
 have hE : es.contains x = decide ((idxI es x) ≥ 0) := by rw [Bool.eq_iff_iff, List.contains_iff_mem, decide_eq_true_iff]; exact idxI_mem.symm
 rw [hE]
 exact ⟨rfl, hS⟩
theorem ocont_sat {w0 w : World} {Rs : List Asn} {s : Sl} {l : List Int} (hS : Sat w0 w Rs) (hr : RdI w s l) (x : Int) :
  Calls Try.prog 81 #[.slice s.A s.n s.c, .int .i64 x] w (Ret fun r w' => r = .bool (l.contains x) ∧ Sat w0 w' Rs) := lift0 hS (ocont_sat0 hr)
def renS (g : Int → Int) (x : ST) : ST := if x.f0 = 4 ∨ x.f0 = 5 then { x with f1 := g x.f1 } else x
theorem renS_yes {g : Int → Int} {x : ST} (h : x.f0 = 4 ∨ x.f0 = 5) : renS g x = { x with f1 := g x.f1 } := if_pos h
theorem renS_no {g : Int → Int} {x : ST} (h : ¬ (x.f0 = 4 ∨ x.f0 = 5)) : renS g x = x := if_neg h
def toG (tl : List Int) (x : Int) : Int := tl.getD x.toNat 0
def rngI (n : Nat) : List Int := (List.range n).map fun i : Nat => (i : Int)
theorem rngI_mem {n : Nat} {x : Int} : x ∈ rngI n ↔ 0 ≤ x ∧ x < (n : Int) := by
 unfold rngI
 rw [List.mem_map]
 constructor
 · rintro ⟨i, hi, rfl⟩; have := List.mem_range.1 hi; omega
 · intro h; exact ⟨x.toNat, List.mem_range.2 (by omega), by omega⟩
theorem rngI_len (n : Nat) : (rngI n).length = n := by simp [rngI]
theorem nodup_snoc {l : List Int} {x : Int} (h : l.Nodup) (hx : l.contains x = false) : (l ++ [x]).Nodup := List.nodup_append.2 ⟨h, by simp, fun y hy z hz e => by
 rw [List.mem_singleton] at hz; subst hz; subst e
 rw [List.contains_iff_mem.2 hy] at hx; cases hx⟩
def manyP (tl : List Int) : Int := tl.foldl (fun m x => max m (x + 1)) 0
theorem many_take {tl : List Int} {i : Nat} {x : Int} (h : tl[i]? = some x) : manyP (tl.take (i + 1)) = max (manyP (tl.take i)) (x + 1) := by
 rw [take_next' h]; unfold manyP; rw [List.foldl_append]; rfl
theorem many_le : ∀ (l : List Int) (m : Int), m ≤ l.foldl (fun m x => max m (x + 1)) m ∧ (∀ x ∈ l, x + 1 ≤ l.foldl (fun m x => max m (x + 1)) m)
  | [], m => ⟨Int.le_refl _, fun x hx => absurd hx List.not_mem_nil⟩
  | y :: l, m => by
    obtain ⟨h1, h2⟩ := many_le l (max m (y + 1))
    refine ⟨by show m ≤ _; have : (y :: l).foldl (fun m x => max m (x + 1)) m = l.foldl (fun m x => max m (x + 1)) (max m (y + 1)) := rfl
               rw [this]; omega, fun x hx => ?_⟩
    show x + 1 ≤ l.foldl (fun m x => max m (x + 1)) (max m (y + 1))
    rcases List.mem_cons.1 hx with rfl | hx
    · omega
    · exact h2 x hx
theorem many_bound : ∀ (l : List Int) (m b : Int), m ≤ b → (∀ x ∈ l, x + 1 ≤ b) → l.foldl (fun m x => max m (x + 1)) m ≤ b
 | [], m, b, h, _ => h
 | y :: l, m, b, h, h2 => many_bound l (max m (y + 1)) b (by have := h2 y List.mem_cons_self; omega) fun x hx => h2 x (List.mem_cons_of_mem _ hx)
theorem manyP_lt {tl : List Int} {x : Int} (h : x ∈ tl) : x < manyP tl := by have := (many_le tl 0).2 x h; unfold manyP; omega
theorem manyP_nonneg (tl : List Int) : 0 ≤ manyP tl := (many_le tl 0).1
def numN (l : List (List ST)) (tl : List Int) : Nat → List (List ST)
 | 0 => List.replicate (manyP tl).toNat []
 | i + 1 => if tl.getD i 0 < 0 then numN l tl i else (numN l tl i).set (tl.getD i 0).toNat ((l.getD i []).map (renS (toG tl)))
def numP (l : List (List ST)) (tl : List Int) : List (List ST) := numN l tl tl.length
theorem numN_len (l : List (List ST)) (tl : List Int) : ∀ i, (numN l tl i).length = (manyP tl).toNat
 | 0 => by simp [numN]
 | i + 1 => by unfold numN; split <;> simp [numN_len l tl i]
theorem numN_neg {l : List (List ST)} {tl : List Int} {i : Nat} {x : Int} (h : tl[i]? = some x) (hx : x < 0) : numN l tl (i + 1) = numN l tl i := by
 have : tl.getD i 0 = x := by simp [List.getD, h]
 rw [numN, this, if_pos hx]
theorem numN_set {l : List (List ST)} {tl : List Int} {i : Nat} {x : Int} {b : List ST} (h : tl[i]? = some x) (hx : ¬ x < 0) (hb : l[i]? = some b) : numN l tl (i + 1) = (numN l tl i).set x.toNat (b.map (renS (toG tl))) := by
 have h1 : tl.getD i 0 = x := by simp [List.getD, h]
 have h2 : l.getD i [] = b := by simp [List.getD, hb]
 rw [numN, h1, h2, if_neg hx]
theorem tot_set_le {L : List (List ST)} {b : List ST} : ∀ (k : Nat), tot (L.set k b) ≤ tot L + b.length := by
 induction L with
 | nil => intro k; simp [tot]
 | cons c L ih =>
  intro k
  cases k with
  | zero => simp [tot]; omega
  | succ k => have := ih k; simp [tot]; omega
theorem tot_rep : ∀ n, tot (List.replicate n ([] : List ST)) = 0
 | 0 => by simp [tot]
 | n + 1 => by rw [List.replicate_succ]; have := tot_rep n; simpa [tot] using this
theorem tot_take_le (l : List (List ST)) : ∀ i, tot (l.take i) ≤ tot l := by
 induction l with
 | nil => intro i; simp [tot]
 | cons c l ih =>
  intro i
  cases i with
  | zero => simp [tot]
  | succ i => have := ih i; simp [tot]; omega
theorem tot_take_next {l : List (List ST)} {i : Nat} {b : List ST} (h : l[i]? = some b) : tot (l.take (i + 1)) = tot (l.take i) + b.length := by
 rw [List.take_add_one, h]
 induction l generalizing i with
 | nil => simp at h
 | cons c l ih =>
  cases i with
  | zero => simp at h; subst h; simp [tot]
  | succ i => simp at h; have := ih h; simp [tot] at this ⊢; omega
theorem numN_tot (l : List (List ST)) (tl : List Int) : ∀ i, tot (numN l tl i) ≤ tot (l.take i)
  | 0 => by rw [numN, tot_rep]; exact Nat.zero_le _
  | i + 1 => by
    have ih := numN_tot l tl i
    have hle : tot (l.take i) ≤ tot (l.take (i + 1)) := by
      cases hb : l[i]? with
      | none => rw [List.take_of_length_le (l := l) (i := i) (List.getElem?_eq_none_iff.1 hb), List.take_of_length_le (l := l) (i := i + 1) (by have := List.getElem?_eq_none_iff.1 hb; omega)]; exact Nat.le_refl _
      | some b => rw [tot_take_next hb]; omega
    unfold numN
    split
    · exact Nat.le_trans ih hle
    · refine Nat.le_trans (tot_set_le _) ?_
      cases hb : l[i]? with
      | none => have h2 : l.getD i [] = [] := by simp [List.getD, hb]
                rw [h2]; simp; omega
      | some b => have h2 : l.getD i [] = b := by simp [List.getD, hb]
                  rw [h2, List.length_map, tot_take_next hb]; omega
theorem numP_tot (l : List (List ST)) (tl : List Int) : tot (numP l tl) ≤ tot l := Nat.le_trans (numN_tot l tl _) (tot_take_le l _)
section
variable {w0 w : World} {Rs : List Asn} {s o z : Sl} {L : List (List ST)} {vs : List Sl} {b : List ST}
theorem encSl_snoc (l : List Sl) (x : Sl) : encSl l ++ [.slice x.A x.n x.c] = encSl (l ++ [x]) := by rw [encSl_map, encSl_map, List.map_append]; rfl
theorem nilsStar {B : Nat} (hB : B = w0.heap.size) (h : Sat w0 w Rs) : ∀ m : Nat, Sat w0 w (jG ((List.replicate m ((Value.slice none 0 0, []) : Value × List ST)).map fun x => kdP B k72 72 x.1 x.2) :: Rs)
 | 0 => Sat.merge (l := []) h
 | m + 1 => by
  subst hB
  have h1 : Sat w0 w (SX.row (⟨none, 0, 0⟩ : Sl).v 72 3 (encS3 []) :: _) := Sat.nilRow (nilsStar rfl h m)
  have h2 := ofRow h1
  exact h2.gain
theorem prgNew {m : Nat} (h : Sat w0 w (SX.row s.v 70 1 (encSl (List.replicate m ⟨none, 0, 0⟩)) :: Rs)) : Sat w0 w (prg w0.heap.size s (List.replicate m []) :: Rs) := by
 refine Sat.shutS (List.replicate m (Value.slice none 0 0, [])) (by simp) (fun x hx => ⟨⟨none, 0, 0⟩, by rw [List.eq_of_mem_replicate hx]⟩) ?_
 have e : (List.replicate m ((Value.slice none 0 0, []) : Value × List ST)).map Prod.fst = encSl (List.replicate m ⟨none, 0, 0⟩) := by rw [encSl_map, List.map_replicate, List.map_replicate]
 rw [e]
 exact (nilsStar (w0 := w0) rfl h m).perm (List.Perm.swap _ _ _)
def starD (B : Nat) (L : List (List ST)) (vs : List Sl) (i : Nat) : Asn := exA fun us : { us : List (Value × List ST) // us.map (·.2) = L ∧ us.map (·.1) = vs.map Sl.v } => jG ((us.1.drop i).map fun x => kdP B k72 72 x.1 x.2)
theorem prgOpen (h : Sat w0 w (prg w0.heap.size s L :: Rs)) : ∃ vs : List Sl, vs.length = L.length ∧ Sat w0 w (SX.row s.v 70 1 (encSl vs) :: starD w0.heap.size L vs 0 :: Rs) := by
 obtain ⟨us, h1, h2, h3⟩ := h.openS
 obtain ⟨vs, hv⟩ := sl_list us h2
 have hvl : vs.length = L.length := by rw [← h1, List.length_map]; have := congrArg List.length hv; simpa using this.symm
 refine ⟨vs, hvl, ?_⟩
 rw [show us.map Prod.fst = vs.map Sl.v from hv] at h3
 rw [encSl_map]
 exact h3.shut (R := fun us : { us : List (Value × List ST) // us.map (·.2) = L ∧ us.map (·.1) = vs.map Sl.v } => jG ((us.1.drop 0).map fun x => kdP w0.heap.size k72 72 x.1 x.2)) ⟨us, h1, hv⟩ 1 rfl
theorem prgSnoc (h : Sat w0 w (SX.row o.v 70 1 (encSl (vs ++ [z])) :: SX.row z.v 72 3 (encS3 b) :: starD w0.heap.size L vs 0 :: Rs)) : Sat w0 w (prg w0.heap.size o (L ++ [b]) :: Rs) := by
  obtain ⟨⟨us, h1, h2⟩, h3⟩ := h.open_ 2 rfl
  have h4 : Sat w0 w (SX.row z.v 72 3 (encS3 b) :: SX.row o.v 70 1 (encSl (vs ++ [z])) :: jG ((us.drop 0).map fun x => kdP w0.heap.size k72 72 x.1 x.2) :: Rs) := Sat.perm h3 (List.Perm.swap _ _ _)
  have h5 := ofRow h4
  have h6 := h5.perm (List.Perm.cons _ (List.Perm.swap _ _ _))
  have h7 : Sat w0 w (jG (((us ++ [(z.v, b)]).map fun x => kdP w0.heap.size k72 72 x.1 x.2)) :: SX.row o.v 70 1 (encSl (vs ++ [z])) :: Rs) := by
    rw [List.map_append];have := Sat.putIn (l1 := us.map fun x => kdP w0.heap.size k72 72 x.1 x.2) (l2 := []) (A := kdP w0.heap.size k72 72 z.v b) (by simpa using h6)
    simpa using this
  refine Sat.shutS (us ++ [(z.v, b)]) (by rw [List.map_append, h1]; rfl) (fun y hy => ?_) ?_
  · have hy1 : y.1 ∈ ((us ++ [(z.v, b)]).map (·.1)) := List.mem_map_of_mem hy
    rw [List.map_append, h2] at hy1
    rcases List.mem_append.1 hy1 with hy1 | hy1
    · obtain ⟨q, _, hq⟩ := List.mem_map.1 hy1; exact ⟨q, hq.symm⟩
    · exact ⟨z, by simpa using hy1⟩
  · rw [show (us ++ [(z.v, b)]).map Prod.fst = encSl (vs ++ [z]) by rw [List.map_append, show us.map Prod.fst = vs.map Sl.v from h2, encSl_map, List.map_append]; rfl]
    exact h7.perm (List.Perm.swap _ _ _)
theorem cloneS_sat {A : Option Addr} {c : Nat} (hS : Sat w0 w Rs) (hr : Kd.C k72 w A b.length b) (hc : b.length ≤ c) (hb : b.length ≤ 1048576) :
  Calls Try.prog 131 #[.slice A b.length c] w (Ret fun r w' => ∃ z : Sl, r = .slice z.A z.n z.c ∧ Sat w0 w' (SX.row z.v 72 3 (encS3 b) :: Rs)) := by
 have hq : impl_Step_131.f b = some b := by
  simp only [impl_Step_131.f, Option.bind_some, List.nil_append, List.length_nil]
  rw [if_pos (by omega)]
 refine (impl_Step_131.calls A c b b w hr hc hq).mono ?_
 rintro e w' ⟨v, rfl, h1, h2⟩
 have h3 := hS.kdMade h2 h1
 obtain ⟨q, hq2⟩ : ∃ q : Sl, v = q.v := by
  obtain ⟨_, _, ho, _⟩ := h1
  rcases ho.2 with ⟨hv, _⟩ | ⟨g, cap, cur, hv, _⟩
  · exact ⟨⟨none, 0, 0⟩, hv⟩
  · exact ⟨⟨some ⟨g, 0, none⟩, _, cap⟩, hv⟩
 subst hq2
 exact ⟨q, rfl, toRow h3⟩
end
def callB (x : ST) : Bool := decide (x.f0 = 4) || decide (x.f0 = 5)
theorem callB_yes {x : ST} (h : callB x = true) : x.f0 = 4 ∨ x.f0 = 5 := by simpa [callB] using h
theorem callB_no {x : ST} (h : callB x = false) : ¬ (x.f0 = 4 ∨ x.f0 = 5) := by intro k; rw [show callB x = true by simpa [callB] using k] at h; cases h
theorem code132 : Try.f132.body = some (Code.seq (cr Try.f132 0 false) (Code.seq (cr Try.f132 1 false) Code.ret)) := by kernel_rfl
theorem calls_sat {w0 w : World} {Rs : List Asn} {x : ST} (hS : Sat w0 w Rs) :
  Calls Try.prog 132 #[.agg #[iv x.f0, iv x.f1, iv x.f2]] w (Ret fun r w' => r = .bool (callB x) ∧ Sat w0 w' Rs) := by
 refine enter (n := 11) Try.func132 code132 (by kernel_rfl) (Nat.le_of_ble_eq_true rfl) (fun a ha => ?_)
 replace ha : Has 11 [(0, .agg #[iv x.f0, iv x.f1, iv x.f2])] a := ha
 refine wp_seq (jX [0, 1] (jV (qZ 1 [iv x.f0, iv x.f1, iv x.f2] 72 (ptr · 0) ha hS fun b1 w a hb2 hS ha => ?_)))
 refine jY [(1, 2, .bool false)] ha fun a ha => ?_
 refine jZ (jJ (wp_seq (jX [0, 1, 2, 3, 4, 5, 6, 7, 8] (jY [(0, 3, ptr b1 0)] ha fun a ha => ?_))))
 refine qG (d := 4) (b := b1) (j := 0) ha (hS.blk 0 rfl) rfl fun a ha => ?_
 refine jY [(2, 5, .bool (decide (x.f0 = 4))), (3, 6, .bool (decide (x.f0 = 4)))] ha fun a ha => ?_
 by_cases c3 : x.f0 = 4
 ·
  replace ha := ha.turn 5 (.bool true) rfl (congrArg Value.bool (decide_eq_true c3))
  replace ha := ha.turn 6 (.bool true) rfl (congrArg Value.bool (decide_eq_true c3))
  refine jY [(4, 7, undef), (5, 8, undef), (6, 9, undef), (7, 10, .bool true), (8, 2, .bool true)] ha fun a ha => ?_
  refine jZ (jJ (wp_ret (qQ ha (by kernel_rfl) (qU (t := 2) ha rfl) ?_)))
  have hE : callB x = true := by unfold callB; simp [c3]
  rw [hE]
  exact ⟨rfl, Sat.rest [_] hS⟩
 replace ha := ha.turn 5 (.bool false) rfl (congrArg Value.bool (decide_eq_false c3))
 replace ha := ha.turn 6 (.bool false) rfl (congrArg Value.bool (decide_eq_false c3))
 refine jY [(4, 7, ptr b1 0)] ha fun a ha => ?_
 refine qG (d := 8) (b := b1) (j := 0) ha (hS.blk 0 rfl) rfl fun a ha => ?_
 refine jY [(6, 9, .bool (decide (x.f0 = 5))), (7, 10, .bool (decide (x.f0 = 5))), (8, 2, .bool (decide (x.f0 = 5)))] ha fun a ha => ?_
 refine jZ (jJ (wp_ret (qQ ha (by kernel_rfl) (qU (t := 2) ha rfl) ?_)))
 have hE : callB x = decide (x.f0 = 5) := by unfold callB; simp [c3]
 rw [hE]
 exact ⟨rfl, Sat.rest [_] hS⟩
theorem okC_of {l : List (List ST)} {b : List ST} (h : programB l = true) (hb : b ∈ l) : ∀ x ∈ b, x.f0 = 4 ∨ x.f0 = 5 → 0 ≤ x.f1 ∧ x.f1 < (l.length : Int) := by
 have hP := progOk_of h
 intro x hx h45
 have := (hP.steps (b.map toStp) (List.mem_map_of_mem hb) (toStp x) (List.mem_map_of_mem hx)).f h45
 rwa [PL_length] at this
def rnL (g : Int → Int) (l : List (List ST)) (i : Nat) : List (List ST) := (l.take i).map (List.map (renS g))
theorem rnL_next {g : Int → Int} {l : List (List ST)} {i : Nat} {b : List ST} (h : l[i]? = some b) : rnL g l (i + 1) = rnL g l i ++ [b.map (renS g)] := by unfold rnL; rw [List.take_add_one, h, List.map_append]; rfl
theorem rnL_len {g : Int → Int} {l : List (List ST)} {i : Nat} (h : i ≤ l.length) : (rnL g l i).length = i := by unfold rnL; rw [List.length_map, List.length_take]; omega
theorem encS3_snoc3' (l : List ST) (x : ST) : encS3 l ++ [.int .i64 x.f0, .int .i64 x.f1, .int .i64 x.f2] = encS3 (l ++ [x]) := by simp [encS3, cT]
theorem code70 : Try.f70.body = some (Code.seq (cr Try.f70 0 false) (Code.seq (cr Try.f70 1 false) (Code.seq (Code.seq (cr Try.f70 2 false) (Code.block 0 (Code.loop (Code.seq (Code.seq (cr Try.f70 3 false) (Code.cond (Operand.tmp 15) Code.skip (Code.exit 0))) (Code.seq (Code.block 1 (cr Try.f70 5 false)) (cr Try.f70 4 false)))))) (Code.seq (cr Try.f70 6 false) (Code.seq (Code.seq (cr Try.f70 7 false) (Code.block 2 (Code.loop (Code.seq (Code.seq (cr Try.f70 8 false) (Code.cond (Operand.tmp 31) Code.skip (Code.exit 2))) (Code.seq (Code.block 3 (Code.seq (Code.seq (cr Try.f70 10 false) (Code.cond (Operand.tmp 38) (Code.exit 3) Code.skip)) (Code.seq (cr Try.f70 11 false) (Code.seq (Code.seq (cr Try.f70 12 false) (Code.block 4 (Code.loop (Code.seq (Code.seq (cr Try.f70 13 false) (Code.cond (Operand.tmp 47) Code.skip (Code.exit 4))) (Code.seq (Code.block 5 (Code.seq (cr Try.f70 15 false) (Code.seq (Code.seq (cr Try.f70 16 false) (Code.cond (Operand.tmp 65) (cr Try.f70 17 false) Code.skip)) (cr Try.f70 18 false)))) (cr Try.f70 14 false)))))) (cr Try.f70 19 true))))) (cr Try.f70 9 false)))))) (Code.seq (cr Try.f70 20 false) Code.ret)))))) := by kernel_rfl
theorem numQ_sat0 {w0 : World} {s0 rt : Sl} {l : List (List ST)} {tl : List Int} (hr : RdP w0 s0 l) (hf : Fits l) (hpg : programB l = true) (hrt : RdI w0 rt tl) (htn : tl.length = l.length) (hrg : ∀ x ∈ tl, -1 ≤ x ∧ x < 1048576) :
  Calls Try.prog 70 #[.agg #[.slice s0.A s0.n s0.c], .slice rt.A rt.n rt.c] w0 (Ret fun r w' => ∃ s : Sl, r = .agg #[s.v] ∧ Sat w0 w' [prg w0.heap.size s (numP l tl)]) := by
 have hS : Sat w0 w0 [] := Sat.start w0
 have hln := hrt.len
 have hlen := hf.len
 refine enter (n := 85) Try.func70 code70 (by kernel_rfl) (Nat.le_of_ble_eq_true rfl) (fun a ha => ?_)
 replace ha : Has 85 [(0, .agg #[.slice s0.A s0.n s0.c]), (1, .slice rt.A rt.n rt.c)] a := ha
 refine wp_seq (jX [0, 1] (jV (qZ 2 [.slice s0.A s0.n s0.c] 30 (ptr · 0) ha hS fun b1 w a hb2 hS ha => ?_)))
 refine jV (qZ 4 [.slice none 0 0] 30 (ptr · 0) ha hS fun b3 w a hb4 hS ha => ?_)
 refine jZ (jJ (wp_seq (jX [0] (jY [(0, 5, iv 0)] ha fun a ha => ?_))))
 refine jZ (jJ (wp_seq (wp_seq (jX [0] (jY [(0, 6, iv 0)] ha fun a ha => ?_)))))
 refine jZ (jJ (wp_block ?_))
 replace hS : Sat w0 w ((SX.blk b3 [.slice none 0 0] 30) :: (SX.blk b1 [.slice s0.A s0.n s0.c] 30) :: []) := hS
 refine wp_loop_ghost (fun n_ a_ w_ => ∃ (j : Nat) (m : Int), n_ = tl.length - j ∧ (j ≤ tl.length) ∧ (m = manyP (tl.take j)) ∧ (0 ≤ m ∧ m ≤ 1048576) ∧ Has 85 [(1, .slice rt.A rt.n rt.c), (2, ptr b1 0), (4, ptr b3 0), (5, iv m), (6, iv (j : Int))] a_ ∧ Sat w0 w_ ((SX.blk b3 [.slice none 0 0] 30) :: (SX.blk b1 [.slice s0.A s0.n s0.c] 30) :: [])) _ ⟨0, 0, rfl, Nat.zero_le _, rfl, ⟨Int.le_refl _, by omega⟩, ha.keeps [1, 2, 4, 5, 6] _ rfl, hS⟩ ?_
 rintro n_ a w ⟨j, m, rfl, hi, hm, hm1, ha, hS⟩
 refine wp_seq (wp_seq (jX [0, 1, 2, 3] (jY [(0, 12, iv (j : Int)), (1, 13, .slice rt.A rt.n rt.c), (2, 14, iv (rt.n : Int)), (3, 15, .bool (decide ((j : Int) < (rt.n : Int))))] ha fun a ha => ?_)))
 refine jZ (jJ ?_)
 by_cases c5 : (j : Int) < (rt.n : Int)
 ·
  have hjl : j < tl.length := by omega
  obtain ⟨x9, hx9⟩ : ∃ x, tl[j]? = some x := ⟨_, List.getElem?_eq_getElem hjl⟩
  have hrx := hrg x9 (List.mem_of_getElem? hx9)
  refine jH ha rfl (decide_eq_true c5) ?_
  refine wp_skip (jJ (wp_seq (wp_block (jX [0, 1, 2, 3, 4, 5, 6, 7] (jY [(0, 18, iv m), (1, 19, .slice rt.A rt.n rt.c), (2, 20, iv (j : Int))] ha fun a ha => ?_)))))
  refine qX (.pointer (some ⟨bk rt, of_ rt + j * 1, none⟩)) ha (xX (el := 3) (sz := 1) (j := j) ha (xK (t := 44) (x := 19) (y := 20) (d := 21)) rfl rfl (by kernel_rfl) (by kernel_rfl) ((hrt.sat hS).at_ ((List.getElem?_eq_some_iff.1 hx9).1)).1 (by rw [((hrt.sat hS)).len]; exact (List.getElem?_eq_some_iff.1 hx9).1)) fun a ha => ?_
  refine qX (iv x9) ha (qW (p := ⟨bk rt, of_ rt + j * 1, none⟩) ha (xW (t := 3) (x := 21) (d := 22) (ty := 3)) rfl (by kernel_rfl) (fun w' hw => by rw [hw, Nat.mul_one, ← getD_at hx9]; exact ((hrt.sat hS).at_ ((List.getElem?_eq_some_iff.1 hx9).1)).2)) fun a ha => ?_
  refine qH 23 (x9 + 1) ha fun a ha => ?_
  refine jV (qK 24 (vs := [iv m, iv (x9 + 1)]) ha (most_sat hS _ _) fun v6 w a hp7 ha => ?_)
  obtain ⟨rfl, hS⟩ := hp7
  refine jY [(7, 5, iv (max m (x9 + 1)))] ha fun a ha => ?_
  refine jZ (in_n (jJ (jX [0, 1, 2] (jY [(0, 16, iv (j : Int))] ha fun a ha => ?_))))
  refine qH 17 ((j : Int) + 1) ha fun a ha => ?_
  refine jY [(2, 6, iv ((j : Int) + 1))] ha fun a ha => ?_
  refine jZ (jJ ?_)
  replace hS : Sat w0 w ((SX.blk b3 [.slice none 0 0] 30) :: (SX.blk b1 [.slice s0.A s0.n s0.c] 30) :: []) := hS
  exact ⟨_, by omega, j + 1, max m (x9 + 1), rfl, hjl, (by rw [many_take hx9, hm]), ⟨by omega, by omega⟩, ha.keeps [1, 2, 4, 5, 6] _ rfl, hS⟩
 refine jU ha rfl (decide_eq_false c5) ?_
 refine wp_exit (qJ (qJ (in_x (jJ (wp_seq ?_)))))
 have hie : j = tl.length := by omega
 rw [hie, List.take_length] at hm
 obtain ⟨mm, rfl⟩ : ∃ q : Nat, m = (q : Int) := ⟨m.toNat, by omega⟩
 refine jX [0, 1, 2, 3, 4] (jY [(0, 25, iv (mm : Int))] ha fun a ha => ?_)
 refine jV (o_makeR (enc := cSl) (x0 := ⟨none, 0, 0⟩) (z := .slice none 0 0) (m := mm) (bytes := 24) (el := 70) ha (by decide) (xU (op := (Op.makeSlice 28 (Operand.tmp 25) (Operand.tmp 25))) (d := some 26) (ty := 28)) rfl rfl (by kernel_rfl) (by kernel_rfl) rfl cSl_len (by decide) (by decide) (by omega) hS fun s1 w a hsn1 hS ha => ?_)
 replace hS := prgNew (s := s1) (m := mm) hS
 refine jY [(2, 27, .agg #[.slice s1.A s1.n s1.c])] ha fun a ha => ?_
 refine jV (qZ 7 [.slice none 0 0] 30 (ptr · 0) ha hS fun b8 w a hb9 hS ha => ?_)
 refine jV (o_sa 0 ha (yX (t := 30) (x := 7) (y := 27)) hS fun w a hS ha => ?_)
 refine jZ (jJ (wp_seq (wp_seq (jX [0] (jY [(0, 8, iv 0)] ha fun a ha => ?_)))))
 refine jZ (jJ (wp_block ?_))
 replace hS := hS.pickN 4 [1, 0, 2, 3]
 replace hS : Sat w0 w ((prg w0.heap.size s1 (numN l tl 0)) :: (SX.blk b8 [.slice s1.A s1.n s1.c] 30) :: (SX.blk b3 [.slice none 0 0] 30) :: (SX.blk b1 [.slice s0.A s0.n s0.c] 30) :: []) := by rw [show numN l tl 0 = List.replicate mm [] by unfold numN; congr 1; omega]; exact hS
 refine wp_loop_ghost (fun n_ a_ w_ => ∃ (i : Nat), n_ = tl.length - i ∧ (i ≤ tl.length) ∧ Has 85 [(1, .slice rt.A rt.n rt.c), (2, ptr b1 0), (4, ptr b3 0), (7, ptr b8 0), (8, iv (i : Int))] a_ ∧ Sat w0 w_ ((prg w0.heap.size s1 (numN l tl i)) :: (SX.blk b8 [.slice s1.A s1.n s1.c] 30) :: (SX.blk b3 [.slice none 0 0] 30) :: (SX.blk b1 [.slice s0.A s0.n s0.c] 30) :: [])) _ ⟨0, rfl, Nat.zero_le _, ha.keeps [1, 2, 4, 7, 8] _ rfl, hS⟩ ?_
 rintro n_ a w ⟨i, rfl, hi, ha, hS⟩
 refine wp_seq (wp_seq (jX [0, 1, 2, 3] (jY [(0, 28, iv (i : Int)), (1, 29, .slice rt.A rt.n rt.c), (2, 30, iv (rt.n : Int)), (3, 31, .bool (decide ((i : Int) < (rt.n : Int))))] ha fun a ha => ?_)))
 refine jZ (jJ ?_)
 by_cases c10 : (i : Int) < (rt.n : Int)
 ·
  have hil : i < tl.length := by omega
  obtain ⟨x9, hx9⟩ : ∃ x, tl[i]? = some x := ⟨_, List.getElem?_eq_getElem hil⟩
  have hrx := hrg x9 (List.mem_of_getElem? hx9)
  refine jH ha rfl (decide_eq_true c10) ?_
  refine wp_skip (jJ (wp_seq (wp_block (wp_seq (wp_seq (jX [0, 1, 2, 3, 4] (jY [(0, 34, .slice rt.A rt.n rt.c), (1, 35, iv (i : Int))] ha fun a ha => ?_)))))))
  refine qX (.pointer (some ⟨bk rt, of_ rt + i * 1, none⟩)) ha (xX (el := 3) (sz := 1) (j := i) ha (xK (t := 44) (x := 34) (y := 35) (d := 36)) rfl rfl (by kernel_rfl) (by kernel_rfl) ((hrt.sat hS).at_ ((List.getElem?_eq_some_iff.1 hx9).1)).1 (by rw [((hrt.sat hS)).len]; exact (List.getElem?_eq_some_iff.1 hx9).1)) fun a ha => ?_
  refine qX (iv x9) ha (qW (p := ⟨bk rt, of_ rt + i * 1, none⟩) ha (xW (t := 3) (x := 36) (d := 37) (ty := 3)) rfl (by kernel_rfl) (fun w' hw => by rw [hw, Nat.mul_one, ← getD_at hx9]; exact ((hrt.sat hS).at_ ((List.getElem?_eq_some_iff.1 hx9).1)).2)) fun a ha => ?_
  refine jY [(4, 38, .bool (decide (x9 < 0)))] ha fun a ha => ?_
  refine jZ (jJ ?_)
  by_cases c11 : x9 < 0
  ·
   refine jH ha rfl (decide_eq_true c11) ?_;refine wp_exit (qJ (in_x (jJ (jX [0, 1, 2] (jY [(0, 32, iv (i : Int))] ha fun a ha => ?_)))));refine qH 33 ((i : Int) + 1) ha fun a ha => ?_;refine jY [(2, 8, iv ((i : Int) + 1))] ha fun a ha => ?_;refine jZ (jJ ?_);replace hS : Sat w0 w ((prg w0.heap.size s1 (numN l tl i)) :: (SX.blk b8 [.slice s1.A s1.n s1.c] 30) :: (SX.blk b3 [.slice none 0 0] 30) :: (SX.blk b1 [.slice s0.A s0.n s0.c] 30) :: []) := hS;replace hS : Sat w0 w ((prg w0.heap.size s1 (numN l tl (i + 1))) :: (SX.blk b8 [.slice s1.A s1.n s1.c] 30) :: (SX.blk b3 [.slice none 0 0] 30) :: (SX.blk b1 [.slice s0.A s0.n s0.c] 30) :: []) := by rw [numN_neg hx9 c11]; exact hS
   exact ⟨_, by omega, i + 1, rfl, hil, ha.keeps [1, 2, 4, 7, 8] _ rfl, hS⟩
  obtain ⟨b, hb⟩ : ∃ b, l[i]? = some b := ⟨_, List.getElem?_eq_getElem (by omega)⟩
  have hb1 : b.length ≤ 1048576 := hf.each b (List.mem_of_getElem? hb)
  obtain ⟨hA0, sb, hcb, hrb⟩ := body_rd hr hb
  have hsb := hrb.len
  refine jU ha rfl (decide_eq_false c11) ?_
  refine wp_skip (jJ (wp_seq (jX [0, 1] (jV (qZ 39 [] 72 (fun b => .slice (some ⟨b, 0, none⟩) 0 0) ha hS fun b12 w a hb13 hS ha => ?_)))))
  refine jY [(1, 9, .slice (some ⟨b12, 0, none⟩) 0 0)] ha fun a ha => ?_
  refine jZ (jJ (wp_seq (wp_seq (jX [0] (jY [(0, 10, iv 0)] ha fun a ha => ?_)))))
  refine jZ (jJ (wp_block ?_))
  replace hS := hS.blk0 3 0 rfl
  replace hS : Sat w0 w ((SX.row (.slice ((⟨some ⟨b12, 0, none⟩, 0, 0⟩ : Sl).A) ((⟨some ⟨b12, 0, none⟩, 0, 0⟩ : Sl).n) ((⟨some ⟨b12, 0, none⟩, 0, 0⟩ : Sl).c)) 72 3 (encS3 [])) :: (prg w0.heap.size s1 (numN l tl i)) :: (SX.blk b8 [.slice s1.A s1.n s1.c] 30) :: (SX.blk b3 [.slice none 0 0] 30) :: (SX.blk b1 [.slice s0.A s0.n s0.c] 30) :: []) := hS
  replace hS : Sat w0 w ((SX.row (.slice ((⟨some ⟨b12, 0, none⟩, 0, 0⟩ : Sl).A) ((⟨some ⟨b12, 0, none⟩, 0, 0⟩ : Sl).n) ((⟨some ⟨b12, 0, none⟩, 0, 0⟩ : Sl).c)) 72 3 (encS3 ((b.take 0).map (renS (toG tl))))) :: (prg w0.heap.size s1 (numN l tl i)) :: (SX.blk b8 [.slice s1.A s1.n s1.c] 30) :: (SX.blk b3 [.slice none 0 0] 30) :: (SX.blk b1 [.slice s0.A s0.n s0.c] 30) :: []) := hS
  refine wp_loop_ghost (fun n_ a_ w_ => ∃ (k : Nat) (bd : Sl), n_ = b.length - k ∧ (k ≤ b.length) ∧ Has 85 [(1, .slice rt.A rt.n rt.c), (2, ptr b1 0), (4, ptr b3 0), (7, ptr b8 0), (8, iv (i : Int)), (28, iv (i : Int)), (29, .slice rt.A rt.n rt.c), (30, iv (rt.n : Int)), (31, .bool (decide ((i : Int) < (rt.n : Int)))), (34, .slice rt.A rt.n rt.c), (35, iv (i : Int)), (36, .pointer (some ⟨bk rt, of_ rt + i * 1, none⟩)), (37, iv x9), (38, .bool (decide (x9 < 0))), (39, .slice (some ⟨b12, 0, none⟩) 0 0), (9, .slice bd.A bd.n bd.c), (10, iv (k : Int))] a_ ∧ Sat w0 w_ ((SX.row (.slice bd.A bd.n bd.c) 72 3 (encS3 ((b.take k).map (renS (toG tl))))) :: (prg w0.heap.size s1 (numN l tl i)) :: (SX.blk b8 [.slice s1.A s1.n s1.c] 30) :: (SX.blk b3 [.slice none 0 0] 30) :: (SX.blk b1 [.slice s0.A s0.n s0.c] 30) :: [])) _ ⟨0, ⟨some ⟨b12, 0, none⟩, 0, 0⟩, rfl, Nat.zero_le _, ha.keeps [1, 2, 4, 7, 8, 28, 29, 30, 31, 34, 35, 36, 37, 38, 39, 9, 10] _ rfl, hS⟩ ?_
  rintro n_ a w ⟨k, bd, rfl, hk, ha, hS⟩
  refine wp_seq (wp_seq (jX [0, 1, 2, 3, 4, 5, 6, 7] (jY [(0, 40, iv (k : Int)), (1, 41, ptr b1 0)] ha fun a ha => ?_)))
  refine qG (d := 42) (b := b1) (j := 0) ha (hS.blk 4 rfl) rfl fun a ha => ?_
  refine jY [(3, 43, iv (i : Int))] ha fun a ha => ?_
  refine qX (.pointer (some ⟨bk s0, of_ s0 + i * 1, none⟩)) ha (xX (s := s0) (el := 70) (sz := 1) (j := i) ha (xK (t := 28) (x := 42) (y := 43) (d := 44)) rfl rfl (by kernel_rfl) (by kernel_rfl) hA0 (by rw [hr.len]; omega)) fun a ha => ?_
  refine qX (.slice sb.A sb.n sb.c) ha (qW (p := ⟨bk s0, of_ s0 + i * 1, none⟩) ha (xW (t := 70) (x := 44) (d := 45) (ty := 70)) rfl (by kernel_rfl) (fun w' hw => by rw [hw]; rw [Nat.mul_one]; exact pw_cell_below hS.below hcb)) fun a ha => ?_
  refine jY [(6, 46, iv (sb.n : Int)), (7, 47, .bool (decide ((k : Int) < (sb.n : Int))))] ha fun a ha => ?_
  refine jZ (jJ ?_)
  by_cases c14 : (k : Int) < (sb.n : Int)
  ·
   have hkl : k < b.length := by omega
   obtain ⟨x, hx⟩ : ∃ x, b[k]? = some x := ⟨_, List.getElem?_eq_getElem hkl⟩;refine jH ha rfl (decide_eq_true c14) ?_;refine wp_skip (jJ (wp_seq (wp_block (wp_seq (jX [0, 1, 2, 3, 4, 5, 6, 7, 8, 9] (jY [(0, 50, ptr b1 0)] ha fun a ha => ?_))))));refine qG (d := 51) (b := b1) (j := 0) ha (hS.blk 4 rfl) rfl fun a ha => ?_;refine jY [(2, 52, iv (i : Int))] ha fun a ha => ?_;refine qX (.pointer (some ⟨bk s0, of_ s0 + i * 1, none⟩)) ha (xX (s := s0) (el := 70) (sz := 1) (j := i) ha (xK (t := 28) (x := 51) (y := 52) (d := 53)) rfl rfl (by kernel_rfl) (by kernel_rfl) hA0 (by rw [hr.len]; omega)) fun a ha => ?_;refine qX (.slice sb.A sb.n sb.c) ha (qW (p := ⟨bk s0, of_ s0 + i * 1, none⟩) ha (xW (t := 70) (x := 53) (d := 54) (ty := 70)) rfl (by kernel_rfl) (fun w' hw => by rw [hw]; rw [Nat.mul_one]; exact pw_cell_below hS.below hcb)) fun a ha => ?_;refine jY [(5, 55, iv (k : Int))] ha fun a ha => ?_;refine qX (.pointer (some ⟨bk sb, of_ sb + k * 3, none⟩)) ha (xY (el := 72) (sz := 3) (j := k) ha (xK (t := 70) (x := 54) (y := 55) (d := 56)) rfl rfl (by kernel_rfl) (by kernel_rfl) (RdE.at_ (hrb.sat hS) _ _ hx).1 (rfl) (by rw [((hrb.sat hS)).len]; exact (List.getElem?_eq_some_iff.1 hx).1)) fun a ha => ?_;refine qX (.agg #[iv x.f0, iv x.f1, iv x.f2]) ha (v_loadE (b := bk sb) (f := of_ sb + k * 3) (vs := [iv x.f0, iv x.f1, iv x.f2]) ha (xW (t := 72) (x := 56) (d := 57) (ty := 72)) rfl (by kernel_rfl) (fun w' hw o u hu => by rw [hw]; exact (RdE.at_ (hrb.sat hS) _ _ hx).2 o u hu)) fun a ha => ?_;refine jV (qZ 11 [iv 0, iv 0, iv 0] 72 (ptr · 0) ha hS fun b15 w a hb16 hS ha => ?_);refine jV (o_sa 0 ha (yX (t := 72) (x := 11) (y := 57)) hS fun w a hS ha => ?_);refine jZ (jJ (wp_seq (wp_seq (jX [0, 1, 2, 3, 4, 5, 6, 7] (jY [(0, 58, ptr b15 0)] ha fun a ha => ?_)))));refine qG (d := 59) (b := b15) (j := 0) ha (hS.blk 0 rfl) rfl fun a ha => ?_;refine jY [(2, 60, .bool (decide (x.f0 = 4))), (3, 61, .bool (decide (x.f0 = 4)))] ha fun a ha => ?_
   by_cases c17 : x.f0 = 4
   ·
    replace ha := ha.turn 60 (.bool true) rfl (congrArg Value.bool (decide_eq_true c17));replace ha := ha.turn 61 (.bool true) rfl (congrArg Value.bool (decide_eq_true c17));refine jY [(4, 62, undef), (5, 63, undef), (6, 64, undef), (7, 65, .bool true)] ha fun a ha => ?_;refine jZ (jJ ?_);refine jH ha rfl rfl ?_;have hix := okC_of hpg (List.mem_of_getElem? hb) x (List.mem_of_getElem? hx) (.inl c17);rw [← htn] at hix;refine jX [0, 1, 2, 3, 4, 5, 6] (jY [(0, 66, .slice rt.A rt.n rt.c), (1, 67, ptr b15 1)] ha fun a ha => ?_);refine qG (d := 68) (b := b15) (j := 1) ha (hS.blk 0 rfl) rfl fun a ha => ?_;refine qX (.pointer (some ⟨bk rt, of_ rt + x.f1.toNat * 1, none⟩)) ha (xY (el := 3) (sz := 1) (j := x.f1.toNat) ha (xK (t := 44) (x := 66) (y := 68) (d := 69)) rfl rfl (by kernel_rfl) (by kernel_rfl) ((hrt.sat hS).at_ (show x.f1.toNat < tl.length by omega)).1 ((Int.toNat_of_nonneg hix.1).symm) (by rw [((hrt.sat hS)).len]; exact (show x.f1.toNat < tl.length by omega))) fun a ha => ?_;refine qX (iv (tl.getD x.f1.toNat 0)) ha (qW (p := ⟨bk rt, of_ rt + x.f1.toNat * 1, none⟩) ha (xW (t := 3) (x := 69) (d := 70) (ty := 3)) rfl (by kernel_rfl) (fun w' hw => by rw [hw, Nat.mul_one]; exact ((hrt.sat hS).at_ (show x.f1.toNat < tl.length by omega)).2)) fun a ha => ?_;refine jY [(5, 71, ptr b15 1)] ha fun a ha => ?_;refine jV (zK b15 1 (iv (tl.getD x.f1.toNat 0)) 0 ha hS rfl rfl fun w a hS ha => ?_);refine jZ (jJ (jX [0, 1, 2, 3, 4] (jY [(0, 72, .slice bd.A bd.n bd.c)] ha fun a ha => ?_)));refine xZ 73 ha (hS.blk 0 rfl) fun a ha => ?_;refine jV (qZ 74 [iv x.f0, iv (tl.getD x.f1.toNat 0), iv x.f2] 72 (fun b => .slice (some ⟨b, 0, none⟩) 1 1) ha hS fun b18 w a hb19 hS ha => ?_);refine jV (o_ap 75 2 0 (encS3 (((b.take k).map (renS (toG tl))) ++ [(⟨x.f0, tl.getD x.f1.toNat 0, x.f2⟩ : ST)])) ha hS rfl rfl (by rw [encS3_length, List.length_map, List.length_take]; simp only [List.length_cons, List.length_nil]; omega) (encS3_snoc3' _ (⟨x.f0, tl.getD x.f1.toNat 0, x.f2⟩ : ST)) fun s23 w a hS hn24 ha => ?_);refine jY [(4, 9, .slice s23.A s23.n s23.c)] ha fun a ha => ?_;refine jZ (in_n (jJ (jX [0, 1, 2] (jY [(0, 48, iv (k : Int))] ha fun a ha => ?_))));refine qH 49 ((k : Int) + 1) ha fun a ha => ?_;refine jY [(2, 10, iv ((k : Int) + 1))] ha fun a ha => ?_;refine jZ (jJ ?_);replace hS := hS.pickN 7 [2, 3, 4, 5, 6];replace hS : Sat w0 w ((SX.row (.slice s23.A s23.n s23.c) 72 3 (encS3 ((b.take (k + 1)).map (renS (toG tl))))) :: (prg w0.heap.size s1 (numN l tl i)) :: (SX.blk b8 [.slice s1.A s1.n s1.c] 30) :: (SX.blk b3 [.slice none 0 0] 30) :: (SX.blk b1 [.slice s0.A s0.n s0.c] 30) :: []) := by rw [List.take_add_one, hx, List.map_append, show Option.toList (some x) = [x] from rfl, List.map_cons, List.map_nil, renS_yes (.inl c17)]; exact hS
    exact ⟨_, by omega, k + 1, s23, rfl, hkl, ha.keeps [1, 2, 4, 7, 8, 28, 29, 30, 31, 34, 35, 36, 37, 38, 39, 9, 10] _ rfl, hS⟩
   replace ha := ha.turn 60 (.bool false) rfl (congrArg Value.bool (decide_eq_false c17));replace ha := ha.turn 61 (.bool false) rfl (congrArg Value.bool (decide_eq_false c17));refine jY [(4, 62, ptr b15 0)] ha fun a ha => ?_;refine qG (d := 63) (b := b15) (j := 0) ha (hS.blk 0 rfl) rfl fun a ha => ?_;refine jY [(6, 64, .bool (decide (x.f0 = 5))), (7, 65, .bool (decide (x.f0 = 5)))] ha fun a ha => ?_;refine jZ (jJ ?_)
   by_cases c25 : x.f0 = 5
   ·
    refine jH ha rfl (decide_eq_true c25) ?_;have hix := okC_of hpg (List.mem_of_getElem? hb) x (List.mem_of_getElem? hx) (.inr c25);rw [← htn] at hix;refine jX [0, 1, 2, 3, 4, 5, 6] (jY [(0, 66, .slice rt.A rt.n rt.c), (1, 67, ptr b15 1)] ha fun a ha => ?_);refine qG (d := 68) (b := b15) (j := 1) ha (hS.blk 0 rfl) rfl fun a ha => ?_;refine qX (.pointer (some ⟨bk rt, of_ rt + x.f1.toNat * 1, none⟩)) ha (xY (el := 3) (sz := 1) (j := x.f1.toNat) ha (xK (t := 44) (x := 66) (y := 68) (d := 69)) rfl rfl (by kernel_rfl) (by kernel_rfl) ((hrt.sat hS).at_ (show x.f1.toNat < tl.length by omega)).1 ((Int.toNat_of_nonneg hix.1).symm) (by rw [((hrt.sat hS)).len]; exact (show x.f1.toNat < tl.length by omega))) fun a ha => ?_;refine qX (iv (tl.getD x.f1.toNat 0)) ha (qW (p := ⟨bk rt, of_ rt + x.f1.toNat * 1, none⟩) ha (xW (t := 3) (x := 69) (d := 70) (ty := 3)) rfl (by kernel_rfl) (fun w' hw => by rw [hw, Nat.mul_one]; exact ((hrt.sat hS).at_ (show x.f1.toNat < tl.length by omega)).2)) fun a ha => ?_;refine jY [(5, 71, ptr b15 1)] ha fun a ha => ?_;refine jV (zK b15 1 (iv (tl.getD x.f1.toNat 0)) 0 ha hS rfl rfl fun w a hS ha => ?_);refine jZ (jJ (jX [0, 1, 2, 3, 4] (jY [(0, 72, .slice bd.A bd.n bd.c)] ha fun a ha => ?_)));refine xZ 73 ha (hS.blk 0 rfl) fun a ha => ?_;refine jV (qZ 74 [iv x.f0, iv (tl.getD x.f1.toNat 0), iv x.f2] 72 (fun b => .slice (some ⟨b, 0, none⟩) 1 1) ha hS fun b26 w a hb27 hS ha => ?_);refine jV (o_ap 75 2 0 (encS3 (((b.take k).map (renS (toG tl))) ++ [(⟨x.f0, tl.getD x.f1.toNat 0, x.f2⟩ : ST)])) ha hS rfl rfl (by rw [encS3_length, List.length_map, List.length_take]; simp only [List.length_cons, List.length_nil]; omega) (encS3_snoc3' _ (⟨x.f0, tl.getD x.f1.toNat 0, x.f2⟩ : ST)) fun s31 w a hS hn32 ha => ?_);refine jY [(4, 9, .slice s31.A s31.n s31.c)] ha fun a ha => ?_;refine jZ (in_n (jJ (jX [0, 1, 2] (jY [(0, 48, iv (k : Int))] ha fun a ha => ?_))));refine qH 49 ((k : Int) + 1) ha fun a ha => ?_;refine jY [(2, 10, iv ((k : Int) + 1))] ha fun a ha => ?_;refine jZ (jJ ?_);replace hS := hS.pickN 7 [2, 3, 4, 5, 6];replace hS : Sat w0 w ((SX.row (.slice s31.A s31.n s31.c) 72 3 (encS3 ((b.take (k + 1)).map (renS (toG tl))))) :: (prg w0.heap.size s1 (numN l tl i)) :: (SX.blk b8 [.slice s1.A s1.n s1.c] 30) :: (SX.blk b3 [.slice none 0 0] 30) :: (SX.blk b1 [.slice s0.A s0.n s0.c] 30) :: []) := by rw [List.take_add_one, hx, List.map_append, show Option.toList (some x) = [x] from rfl, List.map_cons, List.map_nil, renS_yes (.inr c25)]; exact hS
    exact ⟨_, by omega, k + 1, s31, rfl, hkl, ha.keeps [1, 2, 4, 7, 8, 28, 29, 30, 31, 34, 35, 36, 37, 38, 39, 9, 10] _ rfl, hS⟩
   refine jU ha rfl (decide_eq_false c25) ?_;refine wp_skip (jJ (jX [0, 1, 2, 3, 4] (jY [(0, 72, .slice bd.A bd.n bd.c)] ha fun a ha => ?_)));refine xZ 73 ha (hS.blk 0 rfl) fun a ha => ?_;refine jV (qZ 74 [iv x.f0, iv x.f1, iv x.f2] 72 (fun b => .slice (some ⟨b, 0, none⟩) 1 1) ha hS fun b33 w a hb34 hS ha => ?_);refine jV (o_ap 75 2 0 (encS3 (((b.take k).map (renS (toG tl))) ++ [(⟨x.f0, x.f1, x.f2⟩ : ST)])) ha hS rfl rfl (by rw [encS3_length, List.length_map, List.length_take]; simp only [List.length_cons, List.length_nil]; omega) (encS3_snoc3' _ (⟨x.f0, x.f1, x.f2⟩ : ST)) fun s38 w a hS hn39 ha => ?_);refine jY [(4, 9, .slice s38.A s38.n s38.c)] ha fun a ha => ?_;refine jZ (in_n (jJ (jX [0, 1, 2] (jY [(0, 48, iv (k : Int))] ha fun a ha => ?_))));refine qH 49 ((k : Int) + 1) ha fun a ha => ?_;refine jY [(2, 10, iv ((k : Int) + 1))] ha fun a ha => ?_;refine jZ (jJ ?_);replace hS := hS.pickN 7 [2, 3, 4, 5, 6];replace hS : Sat w0 w ((SX.row (.slice s38.A s38.n s38.c) 72 3 (encS3 ((b.take (k + 1)).map (renS (toG tl))))) :: (prg w0.heap.size s1 (numN l tl i)) :: (SX.blk b8 [.slice s1.A s1.n s1.c] 30) :: (SX.blk b3 [.slice none 0 0] 30) :: (SX.blk b1 [.slice s0.A s0.n s0.c] 30) :: []) := by rw [List.take_add_one, hx, List.map_append, show Option.toList (some x) = [x] from rfl, List.map_cons, List.map_nil, renS_no (fun h9 => by rcases h9 with h9 | h9; exact c17 h9; exact c25 h9)]; exact hS
   exact ⟨_, by omega, k + 1, s38, rfl, hkl, ha.keeps [1, 2, 4, 7, 8, 28, 29, 30, 31, 34, 35, 36, 37, 38, 39, 9, 10] _ rfl, hS⟩
  refine jU ha rfl (decide_eq_false c14) ?_
  refine wp_exit (qJ (qJ (in_x (jJ ?_))))
  have hx90 : 0 ≤ x9 := by omega
  have hxm := manyP_lt (List.mem_of_getElem? hx9)
  have hxl : x9.toNat < (numN l tl i).length := by rw [numN_len]; omega
  obtain ⟨bz, hbz⟩ : ∃ c, (numN l tl i)[x9.toNat]? = some c := ⟨_, List.getElem?_eq_getElem hxl⟩
  replace hS := hS.pickN 5 [1, 0, 2, 3, 4]
  obtain ⟨vs, z, hvl, hz, hS⟩ := openFn hS hbz
  replace hS : Sat w0 w ((SX.row (.slice s1.A s1.n s1.c) 70 1 (encSl vs)) :: (SX.row (.slice z.A z.n z.c) 72 3 (encS3 bz)) :: (holeA w0.heap.size (numN l tl i) vs x9.toNat) :: (SX.row (.slice bd.A bd.n bd.c) 72 3 (encS3 ((b.take k).map (renS (toG tl))))) :: (SX.blk b8 [.slice s1.A s1.n s1.c] 30) :: (SX.blk b3 [.slice none 0 0] 30) :: (SX.blk b1 [.slice s0.A s0.n s0.c] 30) :: []) := hS
  refine yV 8 9 hS fun w hS => ?_
  refine qY (k := 8) [(0, 76, ptr b8 0)] ha (.inr hS) fun a ha => ?_
  refine yW 1 (d := 77) (b := b8) (j := 0) ha hS (fun _ hw => hw.blk 4 rfl) rfl fun a ha => ?_
  refine qY (k := 5) [(2, 78, .slice rt.A rt.n rt.c), (3, 79, iv (i : Int))] ha (.inr hS) fun a ha => ?_
  refine yJ 4 (.pointer (some ⟨bk rt, of_ rt + i * 1, none⟩)) ha (xX (el := 3) (sz := 1) (j := i) ha (xK (t := 44) (x := 78) (y := 79) (d := 80)) rfl rfl (by kernel_rfl) (by kernel_rfl) ((hrt.sat hS).at_ ((List.getElem?_eq_some_iff.1 hx9).1)).1 (by rw [((hrt.sat hS)).len]; exact (List.getElem?_eq_some_iff.1 hx9).1)) (.inr hS) fun a ha => ?_
  refine yG 5 (iv x9) ha (qW (p := ⟨bk rt, of_ rt + i * 1, none⟩) ha (xW (t := 3) (x := 80) (d := 81) (ty := 3)) rfl (by kernel_rfl) (fun w' hw => by rw [Nat.mul_one, ← getD_at hx9]; exact ((hrt.sat hw).at_ ((List.getElem?_eq_some_iff.1 hx9).1)).2)) hS fun a ha => ?_
  refine qY (k := 2) [(6, 82, .slice bd.A bd.n bd.c)] ha (.inr hS) fun a ha => ?_
  refine yJ 7 (.pointer (some ⟨bk s1, x9.toNat * 1, none⟩)) ha (xQ (s := s1) (el := 70) (sz := 1) (j := x9.toNat) ha (xK (t := 28) (x := 77) (y := 81) (d := 83)) rfl rfl (by kernel_rfl) (by kernel_rfl) (hS.rowA (s := s1) 0 rfl (by have := (List.getElem?_eq_some_iff.1 hz).1; rw [encSl_length]; omega)) ((Int.toNat_of_nonneg hx90).symm) (by have h9 := hS.rowL (s := s1) (enc := cSl) 0 cSl_len (by decide) rfl; have := (List.getElem?_eq_some_iff.1 hz).1; omega)) (.inr hS) fun a ha => ?_
  refine qV 8 (zQ (s := s1) (j := x9.toNat * 1 + 0) (xs := encSl vs) (xs' := encSl (vs.set x9.toNat bd)) 0 ha (yX (t := 70) (x := 83) (y := 82)) rfl rfl rfl (by kernel_rfl) hS rfl (by have := (List.getElem?_eq_some_iff.1 hz).1; rw [encSl_length]; omega) ((flat_set (enc := cSl) (x' := bd) cSl_len hz (by decide) rfl)) (fun w a (hS : Sat w0 w ((SX.row (.slice s1.A s1.n s1.c) 70 1 (encSl (vs.set x9.toNat bd))) :: (SX.row (.slice z.A z.n z.c) 72 3 (encS3 bz)) :: (holeA w0.heap.size (numN l tl i) vs x9.toNat) :: (SX.row (.slice bd.A bd.n bd.c) 72 3 (encS3 ((b.take k).map (renS (toG tl))))) :: (SX.blk b8 [.slice s1.A s1.n s1.c] 30) :: (SX.blk b3 [.slice none 0 0] 30) :: (SX.blk b1 [.slice s0.A s0.n s0.c] 30) :: [])) ha => ?_))
  refine zX (xH (in_n (jJ (jX [0, 1, 2] (jY [(0, 32, iv (i : Int))] ha fun a ha => ?_)))))
  refine qH 33 ((i : Int) + 1) ha fun a ha => ?_
  refine jY [(2, 8, iv ((i : Int) + 1))] ha fun a ha => ?_
  refine jZ (jJ ?_)
  replace hS := hS.pickN 7 [0, 3, 2, 4, 5, 6]
  obtain rfl : k = b.length := by omega
  rw [List.take_length] at hS
  replace hS : Sat w0 w ((prg w0.heap.size s1 (numN l tl (i + 1))) :: (SX.blk b8 [.slice s1.A s1.n s1.c] 30) :: (SX.blk b3 [.slice none 0 0] 30) :: (SX.blk b1 [.slice s0.A s0.n s0.c] 30) :: []) := by rw [numN_set hx9 c11 hb]; exact shutFn (z' := bd) hxl hS
  exact ⟨_, by omega, i + 1, rfl, hil, ha.keeps [1, 2, 4, 7, 8] _ rfl, hS⟩
 refine jU ha rfl (decide_eq_false c10) ?_
 refine wp_exit (qJ (qJ (in_x (jJ (wp_seq (jX [0, 1] (xZ 84 ha (hS.blk 1 rfl) fun a ha => ?_)))))))
 refine jV (o_sa 2 ha (yX (t := 30) (x := 4) (y := 84)) hS fun w a hS ha => ?_)
 refine jZ ?_
 replace ha := ha.as [(4, ptr b3 0)] rfl
 refine jJ (wp_ret (qQ ha (by kernel_rfl) (yH (t := 4) (ty := 30) (i := 2) ha rfl hS rfl (by kernel_rfl)) ?_))
 obtain rfl : i = tl.length := by omega
 exact ⟨s1, rfl, hS.pickN 4 [0]⟩
theorem liftPn {w0 w : World} {Rs : List Asn} {f : FuncId} {args : Array Value} {L : List (List ST)} (hS : Sat w0 w Rs) (h : Calls Try.prog f args w (Ret fun r w' => ∃ s : Sl, r = .agg #[s.v] ∧ Sat w w' [prg w.heap.size s L])) : Calls Try.prog f args w (Ret fun r w' => ∃ s : Sl, r = .agg #[s.v] ∧ Sat w0 w' (prg w0.heap.size s L :: Rs)) := h.mono fun e w' h => by
 cases e with
 | returned r => obtain ⟨s, h1, h2⟩ := h; exact ⟨s, h1, (show Sat w0 w' (prg w.heap.size s L :: Rs) from hS.comp h2).turn (i := 0) rfl (prg w0.heap.size s L) (kdS_lower hS.below.size w')⟩
 | _ => exact h.elim
def numsOf (ks : List Int) (b : List ST) : List Int := (b.filter fun x : ST => ks.contains x.f0).map fun x : ST => x.f1
def calledP (ks : List Int) (b : List ST) : List Int := asc (numsOf ks b)
theorem numsOf_yes {ks : List Int} {b : List ST} {i : Nat} {x : ST} (h : b[i]? = some x) (hk : ks.contains x.f0 = true) : numsOf ks (b.take (i + 1)) = numsOf ks (b.take i) ++ [x.f1] := by
 unfold numsOf; rw [List.take_add_one, h, List.filter_append, List.map_append]; simp only [Option.toList_some, List.filter_cons, hk, if_true, List.filter_nil, List.map_cons, List.map_nil]
theorem numsOf_no {ks : List Int} {b : List ST} {i : Nat} {x : ST} (h : b[i]? = some x) (hk : ks.contains x.f0 = false) : numsOf ks (b.take (i + 1)) = numsOf ks (b.take i) := by
 unfold numsOf; rw [List.take_add_one, h, List.filter_append, List.map_append]; simp only [Option.toList_some, List.filter_cons, hk, Bool.false_eq_true, if_false, List.filter_nil, List.map_nil, List.append_nil]
theorem numsOf_len (ks : List Int) (b : List ST) : (numsOf ks b).length ≤ b.length := by unfold numsOf; rw [List.length_map]; exact List.length_filter_le _ _
theorem numsOf_mem {ks : List Int} {b : List ST} {y : Int} : y ∈ numsOf ks b ↔ ∃ x ∈ b, ks.contains x.f0 = true ∧ x.f1 = y := by
 unfold numsOf
 simp only [List.mem_map, List.mem_filter, and_assoc]
theorem calledP_len (ks : List Int) (b : List ST) : (calledP ks b).length ≤ b.length := Nat.le_trans (asc_le _) (numsOf_len ks b)
def add1 (O : List Int) (g : Int) : List Int := if O.contains g then O else O ++ [g]
theorem add1_yes {O : List Int} {g : Int} (h : O.contains g = true) : add1 O g = O := if_pos h
theorem add1_no {O : List Int} {g : Int} (h : O.contains g = false) : add1 O g = O ++ [g] := by unfold add1; rw [h]; rfl
def addL (O L : List Int) : List Int := L.foldl add1 O
theorem addL_next {O L : List Int} {i : Nat} {g : Int} (h : L[i]? = some g) : addL O (L.take (i + 1)) = add1 (addL O (L.take i)) g := by
 unfold addL; rw [List.take_add_one, h, List.foldl_append]; rfl
theorem add1_get {O : List Int} {g x : Int} {m : Nat} (h : O[m]? = some x) : (add1 O g)[m]? = some x := by
 unfold add1; split
 · exact h
 · rw [List.getElem?_append_left (List.getElem?_eq_some_iff.1 h).1]; exact h
theorem addL_get {x : Int} {m : Nat} : ∀ (L O : List Int), O[m]? = some x → (addL O L)[m]? = some x
 | [], O, h => h
 | g :: L, O, h => addL_get L (add1 O g) (add1_get h)
structure NdR (n : Nat) (O : List Int) : Prop where
 nd : O.Nodup
 rg : ∀ x ∈ O, 0 ≤ x ∧ x < (n : Int)
theorem NdR.len {n : Nat} {O : List Int} (h : NdR n O) : O.length ≤ n := nodup_len n O h.nd h.rg
theorem NdR.add {n : Nat} {O : List Int} {g : Int} (h : NdR n O) (hg : 0 ≤ g ∧ g < (n : Int)) : NdR n (add1 O g) := by
  by_cases hc : O.contains g = true
  · rw [add1_yes hc]; exact h
  · rw [Bool.not_eq_true] at hc
    rw [add1_no hc];refine ⟨nodup_snoc h.nd hc, fun x hx => ?_⟩
    rcases List.mem_append.1 hx with hx | hx
    · exact h.rg x hx
    · rw [List.mem_singleton.1 hx]; exact hg
theorem NdR.addL {n : Nat} : ∀ (L : List Int) {O : List Int}, NdR n O → (∀ g ∈ L, 0 ≤ g ∧ g < (n : Int)) → NdR n (addL O L)
 | [], _, h, _ => h
 | g :: L, _, h, hL => NdR.addL L (h.add (hL g List.mem_cons_self)) fun x hx => hL x (List.mem_cons_of_mem _ hx)
def k45 : List Int := [4, 5]
theorem k45_iff (x : Int) : k45.contains x = true ↔ x = 4 ∨ x = 5 := by simp [k45]
theorem calledP_rng {l : List (List ST)} {b : List ST} (hpg : programB l = true) (hb : b ∈ l) : ∀ g ∈ calledP k45 b, 0 ≤ g ∧ g < (l.length : Int) := by
 intro g hg
 unfold calledP at hg
 rw [asc_mem, numsOf_mem] at hg
 obtain ⟨x, hx, hk, rfl⟩ := hg
 exact okC_of hpg hb x hx ((k45_iff _).1 hk)
def rcN (l : List (List ST)) (f : Int) : Nat → List Int
  | 0 => [f]
  | i + 1 => match (rcN l f i)[i]? with
    | some x => addL (rcN l f i) (calledP k45 (l.getD x.toNat []))
    | none => rcN l f i
theorem rcN_next {l : List (List ST)} {f : Int} {i : Nat} {x : Int} {b : List ST} (h : (rcN l f i)[i]? = some x) (hb : l[x.toNat]? = some b) : rcN l f (i + 1) = addL (rcN l f i) (calledP k45 b) := by
 rw [rcN, h]; simp only [List.getD, hb, Option.getD_some]
theorem rcN_ok {l : List (List ST)} {f : Int} (hpg : programB l = true) (hf : 0 ≤ f ∧ f < (l.length : Int)) : ∀ i, NdR l.length (rcN l f i)
 | 0 => ⟨by simp [rcN], fun x hx => by rw [rcN, List.mem_singleton] at hx; subst hx; exact hf⟩
 | i + 1 => by
  have ih := rcN_ok hpg hf i
  cases hx : (rcN l f i)[i]? with
  | none => rw [rcN, hx]; exact ih
  | some x =>
   have hr := ih.rg x (List.mem_of_getElem? hx)
   obtain ⟨b, hb⟩ : ∃ b, l[x.toNat]? = some b := ⟨_, List.getElem?_eq_getElem (by omega)⟩
   rw [rcN_next hx hb]
   exact ih.addL _ (calledP_rng hpg (List.mem_of_getElem? hb))
theorem rcN_stay {l : List (List ST)} {f : Int} {i : Nat} (h : (rcN l f i).length ≤ i) : ∀ d, rcN l f (i + d) = rcN l f i
 | 0 => rfl
 | d + 1 => by
  have ih := rcN_stay h d
  rw [← Nat.add_assoc, rcN, ih, List.getElem?_eq_none (by omega)]
def reachP (l : List (List ST)) (f : Int) : List Int := asc (rcN l f l.length)
theorem reach_at {l : List (List ST)} {f : Int} {i : Nat} (hi : i ≤ l.length) (h : (rcN l f i).length ≤ i) : reachP l f = asc (rcN l f i) := by
 have := rcN_stay h (l.length - i)
 rw [show i + (l.length - i) = l.length by omega] at this
 rw [reachP, this]
theorem reach_ok {l : List (List ST)} {f : Int} (hpg : programB l = true) (hf : 0 ≤ f ∧ f < (l.length : Int)) : NdR l.length (reachP l f) := by
 have h := rcN_ok hpg hf l.length
 refine ⟨(asc_inc _).imp fun h e => by omega, fun x hx => h.rg x ?_⟩
 unfold reachP at hx
 rwa [asc_mem] at hx
theorem reach_inc (l : List (List ST)) (f : Int) : IncI (reachP l f) := asc_inc _
theorem asc_add {O : List Int} {g : Int} : put1 (asc O) g = asc (O ++ [g]) := IncI.ext (put1_inc g _ (asc_inc O)) (asc_inc _) fun x => by rw [put1_mem, asc_mem, asc_mem, List.mem_append, List.mem_singleton]
theorem asc_cont (O : List Int) (g : Int) : (asc O).contains g = O.contains g := by rw [Bool.eq_iff_iff, List.contains_iff_mem, List.contains_iff_mem, asc_mem]
theorem asc_one (f : Int) : asc [f] = [f] := IncI.ext (asc_inc _) (List.pairwise_singleton _ _) fun x => by rw [asc_mem]
theorem idx_head {y : Int} {R : List Int} : idxI (y :: R) y = 0 := by unfold idxI; rw [if_pos List.mem_cons_self]; simp
theorem idx_tail {x y : Int} {R : List Int} (h : x ∈ R) (hn : y ≠ x) : idxI (y :: R) x = idxI R x + 1 := by
 unfold idxI
 rw [if_pos (List.mem_cons_of_mem _ h), if_pos h, List.idxOf_cons, show (y == x) = false by simpa using hn]
 simp only [cond_false]
 omega
def lows (R : List Int) (g : Int) : Nat := (R.filter fun x => decide (x < g)).length
theorem lows_none {R : List Int} {g : Int} (h : ∀ x ∈ R, ¬ x < g) : lows R g = 0 := by
 unfold lows
 rw [List.filter_eq_nil_iff.2 fun x hx => by simpa using h x hx]; rfl
theorem idx_lows {g : Int} : ∀ {R : List Int}, IncI R → g ∈ R → idxI R g = (lows R g : Int)
  | y :: R, h, hg => by
    obtain ⟨h1, h2⟩ := List.pairwise_cons.1 h
    rcases List.mem_cons.1 hg with rfl | hg
    · rw [idx_head, lows_none]
      · rfl
      · intro x hx
        rcases List.mem_cons.1 hx with rfl | hx
        · omega
        · have := h1 x hx; omega
    · have hy := h1 g hg
      rw [idx_tail hg (by omega), idx_lows h2 hg];have : lows (y :: R) g = lows R g + 1 := by unfold lows; rw [List.filter_cons_of_pos (by simpa using hy), List.length_cons]
      omega
theorem lows_next {g : Int} : ∀ {R : List Int}, IncI R → lows R (g + 1) = lows R g + if R.contains g then 1 else 0
  | [], _ => by simp [lows]
  | y :: R, h => by
    obtain ⟨h1, h2⟩ := List.pairwise_cons.1 h;have ih := lows_next (g := g) h2
    by_cases hy : y < g
    · have e1 : lows (y :: R) (g + 1) = lows R (g + 1) + 1 := by unfold lows; rw [List.filter_cons_of_pos (by simp; omega), List.length_cons]
      have e2 : lows (y :: R) g = lows R g + 1 := by unfold lows; rw [List.filter_cons_of_pos (by simp; omega), List.length_cons]
      have e3 : (y :: R).contains g = R.contains g := by rw [List.contains_cons]; simp; omega
      rw [e1, e2, e3, ih]; omega
    · by_cases he : y = g
      · subst he
        have z1 : lows R (y + 1) = 0 := lows_none fun x hx => by have := h1 x hx; omega
        have z2 : lows R y = 0 := lows_none fun x hx => by have := h1 x hx; omega
        have e1 : lows (y :: R) (y + 1) = lows R (y + 1) + 1 := by unfold lows; rw [List.filter_cons_of_pos (by simp; omega), List.length_cons]
        have e2 : lows (y :: R) y = lows R y := by unfold lows; rw [List.filter_cons_of_neg (by simp)]
        rw [e1, e2, z1, z2]; simp
      · have e1 : lows (y :: R) (g + 1) = 0 := lows_none fun x hx => by
          rcases List.mem_cons.1 hx with rfl | hx
          · omega
          · have := h1 x hx; omega
        have e2 : lows (y :: R) g = 0 := lows_none fun x hx => by
          rcases List.mem_cons.1 hx with rfl | hx
          · omega
          · have := h1 x hx; omega
        have e3 : (y :: R).contains g = false := by
          rw [Bool.eq_false_iff]; intro hc;rw [List.contains_iff_mem] at hc
          rcases List.mem_cons.1 hc with hc | hc
          · exact he hc.symm
          · have := h1 g hc; omega
        rw [e1, e2, e3]; simp
theorem lows_zero {n : Nat} {R : List Int} (h : NdR n R) : lows R 0 = 0 := lows_none fun x hx => by have := h.rg x hx; omega
def toR (n : Nat) (R : List Int) : List Int := (rngI n).map (idxI R)
theorem toR_len (n : Nat) (R : List Int) : (toR n R).length = n := by unfold toR; rw [List.length_map, rngI_len]
theorem rngI_get {n i : Nat} (h : i < n) : (rngI n)[i]? = some (i : Int) := by unfold rngI; rw [List.getElem?_map, List.getElem?_range h]; rfl
theorem toR_get {n i : Nat} {R : List Int} (h : i < n) : (toR n R)[i]? = some (idxI R (i : Int)) := by unfold toR; rw [List.getElem?_map, rngI_get h]; rfl
theorem rngI_succ (n : Nat) : rngI (n + 1) = rngI n ++ [(n : Int)] := by unfold rngI; rw [List.range_succ, List.map_append]; rfl
theorem toR_succ (n : Nat) (R : List Int) : toR (n + 1) R = toR n R ++ [idxI R (n : Int)] := by unfold toR; rw [rngI_succ, List.map_append]; rfl
theorem toR_yes {n : Nat} {R : List Int} (hi : IncI R) (h : R.contains (n : Int) = true) : toR (n + 1) R = toR n R ++ [(lows R (n : Int) : Int)] := by rw [toR_succ, idx_lows hi (List.contains_iff_mem.1 h)]
theorem toR_no {n : Nat} {R : List Int} (h : R.contains (n : Int) = false) : toR (n + 1) R = toR n R ++ [-1] := by
 rw [toR_succ, idxI_no fun h2 => by rw [List.contains_iff_mem.2 h2] at h; cases h]
theorem toR_rng {n : Nat} {R : List Int} : ∀ x ∈ toR n R, -1 ≤ x ∧ x ≤ (R.length : Int) := by
 intro x hx
 obtain ⟨y, _, rfl⟩ := List.mem_map.1 hx
 exact idxI_le R y
theorem toG_toR {n : Nat} {R : List Int} {x : Int} (h : 0 ≤ x ∧ x < (n : Int)) : toG (toR n R) x = idxI R x := by
 unfold toG
 rw [List.getD_eq_getElem?_getD, toR_get (by omega), show ((x.toNat : Nat) : Int) = x by omega]; rfl
theorem idx_get {R : List Int} (hd : R.Nodup) {k : Nat} {x : Int} (h : R[k]? = some x) : idxI R x = (k : Int) := by
 refine idxI_yes h fun hm => ?_
 have := hd
 rw [← List.take_append_drop k R] at this
 exact (List.nodup_append.1 this).2.2 x hm x (by rw [List.mem_iff_getElem?]; exact ⟨0, by rw [List.getElem?_drop, Nat.add_zero]; exact h⟩) rfl
theorem manyR {n : Nat} {R : List Int} (h : NdR n R) : manyP (toR n R) = (R.length : Int) := by
  have h1 : manyP (toR n R) ≤ (R.length : Int) := many_bound _ 0 _ (by omega) fun x hx => by
    obtain ⟨y, _, rfl⟩ := List.mem_map.1 hx
    by_cases hm : y ∈ R
    · obtain ⟨k, hk⟩ := List.getElem?_of_mem hm
      rw [idx_get h.nd hk];have := (List.getElem?_eq_some_iff.1 hk).1
      omega
    · rw [idxI_no hm]; omega
  rcases Nat.eq_zero_or_pos R.length with h0 | h0
  · have := manyP_nonneg (toR n R); omega
  · obtain ⟨x, hx⟩ : ∃ x, R[R.length - 1]? = some x := ⟨_, List.getElem?_eq_getElem (by omega)⟩
    have hr := h.rg x (List.mem_of_getElem? hx)
    have hm : ((R.length - 1 : Nat) : Int) ∈ toR n R := by
      unfold toR;rw [List.mem_map];exact ⟨x, rngI_mem.2 hr, idx_get h.nd hx⟩
    have := manyP_lt hm
    omega
def keptL (l : List (List ST)) (R : List Int) : List (List ST) := R.map fun g => l.getD g.toNat []
def keepL (l : List (List ST)) (R : List Int) : List (List ST) := (keptL l R).map (List.map (renS (idxI R)))
theorem ren_same {l : List (List ST)} {b : List ST} {R : List Int} (hpg : programB l = true) (hb : b ∈ l) : b.map (renS (toG (toR l.length R))) = b.map (renS (idxI R)) := by
 refine List.map_congr_left fun x hx => ?_
 by_cases h : x.f0 = 4 ∨ x.f0 = 5
 · rw [renS_yes h, renS_yes h, toG_toR (okC_of hpg hb x hx h)]
 · rw [renS_no h, renS_no h]
theorem keep_eq {l : List (List ST)} {R : List Int} (hpg : programB l = true) (h : NdR l.length R) : numP l (toR l.length R) = keepL l R := by
  have main : ∀ i : Nat, i ≤ l.length → ∀ (k : Nat) (x : Int), R[k]? = some x → (numN l (toR l.length R) i)[k]? = some (if x < (i : Int) then (l.getD x.toNat []).map (renS (idxI R)) else []) := by
    intro i
    induction i with
    | zero =>
      intro _ k x hk;have hr := h.rg x (List.mem_of_getElem? hk);rw [numN, manyR h, if_neg (by omega), Int.toNat_natCast, List.getElem?_replicate, if_pos (List.getElem?_eq_some_iff.1 hk).1]
    | succ i ih =>
      intro hi k x hk;have ih := ih (by omega) k x hk;obtain ⟨b, hb⟩ : ∃ b, l[i]? = some b := ⟨_, List.getElem?_eq_getElem (by omega)⟩;have hkl := (List.getElem?_eq_some_iff.1 hk).1
      by_cases hm : (i : Int) ∈ R
      · obtain ⟨j, hj⟩ := List.getElem?_of_mem hm
        have hidx := idx_get h.nd hj;rw [numN_set (toR_get (by omega)) (by rw [hidx]; omega) hb, hidx, Int.toNat_natCast, ren_same hpg (List.mem_of_getElem? hb)]
        by_cases hkj : k = j
        · subst hkj
          obtain rfl := Option.some.inj (hk.symm.trans hj);rw [List.getElem?_set_self (by rw [numN_len, manyR h]; omega), if_pos (by omega)];simp only [Int.toNat_natCast, List.getD, hb, Option.getD_some]
        · rw [List.getElem?_set_ne (fun e => hkj e.symm), ih]
          have hne : x ≠ (i : Int) := fun e => hkj (by
            have h1 := idx_get h.nd hk;rw [e, hidx] at h1
            omega)
          by_cases hx : x < (i : Int)
          · rw [if_pos hx, if_pos (by omega)]
          · rw [if_neg hx, if_neg (by omega)]
      · rw [numN_neg (toR_get (by omega)) (by rw [idxI_no hm]; omega), ih]
        have hne : x ≠ (i : Int) := fun e => hm (by rw [← e]; exact List.mem_of_getElem? hk)
        by_cases hx : x < (i : Int)
        · rw [if_pos hx, if_pos (by omega)]
        · rw [if_neg hx, if_neg (by omega)]
  unfold numP
  rw [toR_len]
  refine List.ext_getElem? fun k => ?_
  unfold keepL keptL
  rw [List.map_map, List.getElem?_map]
  cases hk : R[k]? with
  | none => rw [List.getElem?_eq_none (by rw [numN_len, manyR h]; have := List.getElem?_eq_none_iff.1 hk; omega)]; rfl
  | some x => rw [main _ (Nat.le_refl _) k x hk, if_pos (h.rg x (List.mem_of_getElem? hk)).2]; rfl
def keepP (l : List (List ST)) (f : Int) : List (List ST) × Int × Bool := if okF l f = true then (keepL l (reachP l f), idxI (reachP l f) f, true) else ([], 0, false)
theorem keepP_yes {l : List (List ST)} {f : Int} (h : okF l f = true) : keepP l f = (keepL l (reachP l f), idxI (reachP l f) f, true) := if_pos h
theorem keepP_no {l : List (List ST)} {f : Int} (h : okF l f = false) : keepP l f = ([], 0, false) := by unfold keepP; rw [h]; rfl
theorem keepP_fits {l : List (List ST)} (hf : Fits l) (f : Int) : Fits (keepP l f).1 := by
  by_cases h : okF l f = true
  · rw [keepP_yes h, ← keep_eq (okF_prog h) (reach_ok (okF_prog h) (okF_lt h))]
    refine ⟨?_, Nat.le_trans (numP_tot l _) hf.2⟩
    show (numN l _ _).length ≤ _
    rw [numN_len, manyR (reach_ok (okF_prog h) (okF_lt h))];have := (reach_ok (okF_prog h) (okF_lt h)).len;exact Nat.le_trans (by omega) hf.1
  · rw [Bool.not_eq_true] at h
    rw [keepP_no h];exact nil_fits
theorem putL_app (o L : List Int) (y : Int) : putL o (L ++ [y]) = put1 (putL o L) y := by unfold putL; rw [List.foldl_append]; rfl
theorem k45_no {x : Int} (h4 : ¬ x = 4) (h5 : ¬ x = 5) : k45.contains x = false := by rw [Bool.eq_false_iff]; intro h; rcases (k45_iff x).1 h with h | h; exact h4 h; exact h5 h
theorem code80 : Try.f80.body = some (Code.seq (cr Try.f80 0 false) (Code.seq (cr Try.f80 1 false) (Code.seq (Code.seq (cr Try.f80 2 false) (Code.block 0 (Code.loop (Code.seq (cr Try.f80 3 false) (Code.seq (Code.cond (Operand.tmp 12) Code.skip (Code.exit 0)) (Code.seq (Code.block 1 (Code.seq (cr Try.f80 4 false) (Code.seq (cr Try.f80 5 false) (Code.cond (Operand.tmp 18) (cr Try.f80 6 false) Code.skip)))) (cr Try.f80 7 false))))))) (Code.seq (cr Try.f80 8 false) Code.ret)))) := by kernel_rfl
theorem called_sat {w0 w : World} {Rs : List Asn} {sb sk : Sl} {b : List ST} {ks : List Int} (hS : Sat w0 w (SX.row (.slice sk.A sk.n sk.c) 3 1 (SX.encI ks) :: Rs)) (hrb : RdE cT 3 w0 sb b) (hb1 : b.length ≤ 100000) :
  Calls Try.prog 80 #[.slice sb.A sb.n sb.c, .slice sk.A sk.n sk.c] w (Ret fun r w' => ∃ o : Sl, r = .slice o.A o.n o.c ∧ Sat w0 w' (SX.row (.slice o.A o.n o.c) 3 1 (SX.encI (calledP ks b)) :: Rs)) := by
 have hsb := hrb.len
 refine enter (n := 27) Try.func80 code80 (by kernel_rfl) (Nat.le_of_ble_eq_true rfl) (fun a ha => ?_)
 replace ha : Has 27 [(0, .slice sb.A sb.n sb.c), (1, .slice sk.A sk.n sk.c)] a := ha
 refine wp_seq (jX [0] (jY [(0, 4, .slice none 0 0)] ha fun a ha => ?_))
 refine jZ (jJ (wp_seq (jX [0, 1] (jV (qZ 8 [] 3 (fun b => .slice (some ⟨b, 0, none⟩) 0 0) ha hS fun b1 w a hb2 hS ha => ?_)))))
 refine jY [(1, 5, .slice (some ⟨b1, 0, none⟩) 0 0)] ha fun a ha => ?_
 refine jZ (jJ (wp_seq (wp_seq (jX [0, 1, 2] (jY [(0, 9, .slice sb.A sb.n sb.c), (1, 10, iv (sb.n : Int)), (2, 11, iv 0)] ha fun a ha => ?_)))))
 refine jZ (jJ (wp_block ?_))
 replace hS := hS.blk0 1 0 rfl
 replace hS : Sat w0 w ((rI (⟨some ⟨b1, 0, none⟩, 0, 0⟩ : Sl) []) :: (rI sk ks) :: Rs) := hS
 replace hS : Sat w0 w ((rI (⟨some ⟨b1, 0, none⟩, 0, 0⟩ : Sl) (numsOf ks (b.take 0))) :: (rI sk ks) :: Rs) := hS
 refine wp_loop_ghost (fun n_ a_ w_ => ∃ (i : Nat) (o : Sl), n_ = b.length - i ∧ (i ≤ b.length) ∧ Has 27 [(1, .slice sk.A sk.n sk.c), (4, .slice none 0 0), (9, .slice sb.A sb.n sb.c), (10, iv (sb.n : Int)), (5, .slice o.A o.n o.c), (11, iv (i : Int))] a_ ∧ Sat w0 w_ ((rI o (numsOf ks (b.take i))) :: (rI sk ks) :: Rs)) _ ⟨0, ⟨some ⟨b1, 0, none⟩, 0, 0⟩, rfl, Nat.zero_le _, ha.keeps [1, 4, 9, 10, 5, 11] _ rfl, hS⟩ ?_
 rintro n_ a w ⟨i, o, rfl, hi, ha, hS⟩
 refine wp_seq (jX [0] (jY [(0, 12, .bool (decide ((i : Int) < (sb.n : Int))))] ha fun a ha => ?_))
 refine jZ (jJ (wp_seq ?_))
 by_cases c3 : (i : Int) < (sb.n : Int)
 ·
  have hil : i < b.length := by omega
  obtain ⟨x, hx⟩ : ∃ x, b[i]? = some x := ⟨_, List.getElem?_eq_getElem hil⟩
  refine jH ha rfl (decide_eq_true c3) ?_
  refine wp_skip (jJ (wp_seq (wp_block (wp_seq (jX [0, 1, 2, 3] (qX (.pointer (some ⟨bk sb, of_ sb + i * 3, none⟩)) ha (xY (el := 72) (sz := 3) (j := i) ha (xK (t := 70) (x := 9) (y := 11) (d := 13)) rfl rfl (by kernel_rfl) (by kernel_rfl) (RdE.at_ (hrb.sat hS) _ _ hx).1 (rfl) (by rw [((hrb.sat hS)).len]; exact (List.getElem?_eq_some_iff.1 hx).1)) fun a ha => ?_))))))
  refine qX (.agg #[iv x.f0, iv x.f1, iv x.f2]) ha (v_loadE (b := bk sb) (f := of_ sb + i * 3) (vs := [iv x.f0, iv x.f1, iv x.f2]) ha (xW (t := 72) (x := 13) (d := 14) (ty := 72)) rfl (by kernel_rfl) (fun w' hw o u hu => by rw [hw]; exact (RdE.at_ (hrb.sat hS) _ _ hx).2 o u hu)) fun a ha => ?_
  refine jV (qZ 7 [iv 0, iv 0, iv 0] 72 (ptr · 0) ha hS fun b4 w a hb5 hS ha => ?_)
  refine jV (o_sa 0 ha (yX (t := 72) (x := 7) (y := 14)) hS fun w a hS ha => ?_)
  refine jZ (jJ (wp_seq (jX [0, 1, 2, 3] (jY [(0, 15, .slice sk.A sk.n sk.c), (1, 16, ptr b4 0)] ha fun a ha => ?_))))
  refine qG (d := 17) (b := b4) (j := 0) ha (hS.blk 0 rfl) rfl fun a ha => ?_
  refine jV (qK 18 (vs := [.slice sk.A sk.n sk.c, iv x.f0]) ha (ocont_sat hS (hS.rdRow (s := sk) 2 rfl) x.f0) fun v6 w a hp7 ha => ?_)
  obtain ⟨rfl, hS⟩ := hp7
  refine jZ (jJ ?_)
  rcases Bool.eq_false_or_eq_true (ks.contains x.f0) with c8 | c8
  ·
   refine jH ha rfl c8 ?_;refine jX [0, 1, 2, 3, 4, 5] (jY [(0, 19, .slice o.A o.n o.c), (1, 20, ptr b4 1)] ha fun a ha => ?_);refine qG (d := 21) (b := b4) (j := 1) ha (hS.blk 0 rfl) rfl fun a ha => ?_;refine jV (qZ 22 [iv x.f1] 3 (fun b => .slice (some ⟨b, 0, none⟩) 1 1) ha hS fun b9 w a hb10 hS ha => ?_);refine jV (o_ap 23 2 0 (SX.encI ((numsOf ks (b.take i)) ++ [x.f1])) ha hS rfl rfl (by rw [encI_length]; have := numsOf_len ks (b.take i); rw [List.length_take] at this; simp only [List.length_cons, List.length_nil]; omega) (encI_snoc _ _) fun s14 w a hS hn15 ha => ?_);refine jY [(5, 5, .slice s14.A s14.n s14.c)] ha fun a ha => ?_;refine jZ (in_n (jJ (jX [0, 1] (qH 24 ((i : Int) + 1) ha fun a ha => ?_))));refine jY [(1, 11, iv ((i : Int) + 1))] ha fun a ha => ?_;refine jZ (jJ ?_);replace hS := hS.pickN 4 [2, 3];replace hS : Sat w0 w ((rI s14 (numsOf ks (b.take (i + 1)))) :: (rI sk ks) :: Rs) := by rw [numsOf_yes hx c8]; exact hS
   exact ⟨_, by omega, i + 1, s14, rfl, hil, ha.keeps [1, 4, 9, 10, 5, 11] _ rfl, hS⟩
  refine jU ha rfl c8 ?_
  refine wp_skip (in_n (jJ (jX [0, 1] (qH 24 ((i : Int) + 1) ha fun a ha => ?_))))
  refine jY [(1, 11, iv ((i : Int) + 1))] ha fun a ha => ?_
  refine jZ (jJ ?_)
  replace hS := hS.pickN 3 [1, 2]
  replace hS : Sat w0 w ((rI o (numsOf ks (b.take (i + 1)))) :: (rI sk ks) :: Rs) := by rw [numsOf_no hx c8]; exact hS
  exact ⟨_, by omega, i + 1, o, rfl, hil, ha.keeps [1, 4, 9, 10, 5, 11] _ rfl, hS⟩
 refine jU ha rfl (decide_eq_false c3) ?_
 refine wp_exit (qJ (qJ (in_x (jJ (wp_seq (jX [0, 1, 2] (jY [(0, 25, .slice o.A o.n o.c)] ha fun a ha => ?_)))))))
 have hie : i = b.length := by omega
 replace hS : Sat w0 w ((rI o (numsOf ks (b.take i))) :: (rI sk ks) :: Rs) := hS
 replace hS : Sat w0 w ((rI o (numsOf ks b)) :: (rI sk ks) :: Rs) := by rw [hie, List.take_length] at hS; exact hS
 refine jV (qK 26 (vs := [.slice o.A o.n o.c]) ha (asc_sat (L := numsOf ks b) hS (by have := numsOf_len ks b; omega)) fun v16 w a hp17 ha => ?_)
 obtain ⟨ao1, rfl, hS⟩ := hp17
 refine jY [(2, 4, .slice ao1.A ao1.n ao1.c)] ha fun a ha => ?_
 refine jZ (jJ (wp_ret (qQ ha (by kernel_rfl) (qU (t := 4) ha rfl) ?_)))
 exact ⟨ao1, rfl, hS.pickN 2 [0]⟩
theorem code127 : Try.f127.body = some (Code.seq (cr Try.f127 0 false) (Code.seq (cr Try.f127 1 false) (Code.seq (Code.seq (cr Try.f127 2 false) (Code.block 0 (Code.loop (Code.seq (Code.seq (cr Try.f127 3 false) (Code.cond (Operand.tmp 16) Code.skip (Code.exit 0))) (Code.seq (Code.block 1 (Code.seq (cr Try.f127 5 false) (Code.seq (cr Try.f127 6 false) (Code.cond (Operand.tmp 34) (cr Try.f127 7 false) Code.skip)))) (cr Try.f127 4 false)))))) (Code.seq (cr Try.f127 8 false) Code.ret)))) := by kernel_rfl
theorem qcalls_sat {w0 w : World} {Rs : List Asn} {s : Sl} {l : List (List ST)} {f : Int} {b : List ST} (hS : Sat w0 w Rs) (hr : RdP w0 s l) (hf : Fits l) (hpg : programB l = true) (hyr : 0 ≤ f ∧ f < (l.length : Int)) (hb : l[f.toNat]? = some b) :
  Calls Try.prog 127 #[.agg #[.slice s.A s.n s.c], iv f] w (Ret fun r w' => ∃ o : Sl, r = .slice o.A o.n o.c ∧ Sat w0 w' (SX.row (.slice o.A o.n o.c) 3 1 (SX.encI (calledP k45 b)) :: Rs)) := by
 have hb1 : b.length ≤ 8 := (okJ_of hpg (List.mem_of_getElem? hb)).2
 obtain ⟨hA0, sb, hcb, hrb⟩ := body_rd hr hb
 have hsb := hrb.len
 have hlen := hf.len
 refine enter (n := 40) Try.func127 code127 (by kernel_rfl) (Nat.le_of_ble_eq_true rfl) (fun a ha => ?_)
 replace ha : Has 40 [(0, .agg #[.slice s.A s.n s.c]), (1, iv f)] a := ha
 refine wp_seq (jX [0, 1] (jV (qZ 2 [.slice s.A s.n s.c] 30 (ptr · 0) ha hS fun b1 w a hb2 hS ha => ?_)))
 refine jY [(1, 4, .slice none 0 0)] ha fun a ha => ?_
 refine jZ (jJ (wp_seq (jX [0, 1] (jV (qZ 8 [] 3 (fun b => .slice (some ⟨b, 0, none⟩) 0 0) ha hS fun b3 w a hb4 hS ha => ?_)))))
 refine jY [(1, 5, .slice (some ⟨b3, 0, none⟩) 0 0)] ha fun a ha => ?_
 refine jZ (jJ (wp_seq (wp_seq (jX [0] (jY [(0, 6, iv 0)] ha fun a ha => ?_)))))
 refine jZ (jJ (wp_block ?_))
 replace hS := hS.blk0 1 0 rfl
 replace hS := hS.pickN 2 [1, 0]
 replace hS : Sat w0 w ((SX.blk b1 [.slice s.A s.n s.c] 30) :: (rI (⟨some ⟨b3, 0, none⟩, 0, 0⟩ : Sl) (putL [] (numsOf k45 (b.take 0)))) :: Rs) := hS
 refine wp_loop_ghost (fun n_ a_ w_ => ∃ (i : Nat) (o : Sl), n_ = b.length - i ∧ (i ≤ b.length) ∧ Has 40 [(1, iv f), (2, ptr b1 0), (4, .slice none 0 0), (5, .slice o.A o.n o.c), (6, iv (i : Int))] a_ ∧ Sat w0 w_ ((SX.blk b1 [.slice s.A s.n s.c] 30) :: (rI o (putL [] (numsOf k45 (b.take i)))) :: Rs)) _ ⟨0, ⟨some ⟨b3, 0, none⟩, 0, 0⟩, rfl, Nat.zero_le _, ha.keeps [1, 2, 4, 5, 6] _ rfl, hS⟩ ?_
 rintro n_ a w ⟨i, o, rfl, hi, ha, hS⟩
 refine wp_seq (wp_seq (jX [0, 1, 2, 3, 4, 5, 6, 7] (jY [(0, 9, iv (i : Int)), (1, 10, ptr b1 0)] ha fun a ha => ?_)))
 refine qG (d := 11) (b := b1) (j := 0) ha (hS.blk 0 rfl) rfl fun a ha => ?_
 refine jY [(3, 12, iv f)] ha fun a ha => ?_
 refine qX (.pointer (some ⟨bk s, of_ s + f.toNat * 1, none⟩)) ha (xY (s := s) (el := 70) (sz := 1) (j := f.toNat) ha (xK (t := 28) (x := 11) (y := 12) (d := 13)) rfl rfl (by kernel_rfl) (by kernel_rfl) hA0 (Int.toNat_of_nonneg hyr.1).symm (by rw [hr.len]; omega)) fun a ha => ?_
 refine qX (.slice sb.A sb.n sb.c) ha (qW ha (xW (t := 70) (x := 13) (d := 14) (ty := 70)) rfl (by kernel_rfl) (fun w' hw => by rw [hw]; rw [Nat.mul_one]; exact pw_cell_below hS.below hcb)) fun a ha => ?_
 refine jY [(6, 15, iv (sb.n : Int)), (7, 16, .bool (decide ((i : Int) < (sb.n : Int))))] ha fun a ha => ?_
 refine jZ (jJ ?_)
 by_cases c5 : (i : Int) < (sb.n : Int)
 ·
  have hil : i < b.length := by omega
  obtain ⟨x, hx⟩ : ∃ x, b[i]? = some x := ⟨_, List.getElem?_eq_getElem hil⟩
  refine jH ha rfl (decide_eq_true c5) ?_
  refine wp_skip (jJ (wp_seq (wp_block (wp_seq (jX [0, 1, 2, 3, 4, 5, 6, 7, 8, 9] (jY [(0, 19, ptr b1 0)] ha fun a ha => ?_))))))
  refine qG (d := 20) (b := b1) (j := 0) ha (hS.blk 0 rfl) rfl fun a ha => ?_
  refine jY [(2, 21, iv f)] ha fun a ha => ?_
  refine qX (.pointer (some ⟨bk s, of_ s + f.toNat * 1, none⟩)) ha (xY (s := s) (el := 70) (sz := 1) (j := f.toNat) ha (xK (t := 28) (x := 20) (y := 21) (d := 22)) rfl rfl (by kernel_rfl) (by kernel_rfl) hA0 (Int.toNat_of_nonneg hyr.1).symm (by rw [hr.len]; omega)) fun a ha => ?_
  refine qX (.slice sb.A sb.n sb.c) ha (qW ha (xW (t := 70) (x := 22) (d := 23) (ty := 70)) rfl (by kernel_rfl) (fun w' hw => by rw [hw]; rw [Nat.mul_one]; exact pw_cell_below hS.below hcb)) fun a ha => ?_
  refine jY [(5, 24, iv (i : Int))] ha fun a ha => ?_
  refine qX (.pointer (some ⟨bk sb, of_ sb + i * 3, none⟩)) ha (xY (el := 72) (sz := 3) (j := i) ha (xK (t := 70) (x := 23) (y := 24) (d := 25)) rfl rfl (by kernel_rfl) (by kernel_rfl) (RdE.at_ (hrb.sat hS) _ _ hx).1 (rfl) (by rw [((hrb.sat hS)).len]; exact (List.getElem?_eq_some_iff.1 hx).1)) fun a ha => ?_
  refine qX (.agg #[iv x.f0, iv x.f1, iv x.f2]) ha (v_loadE (b := bk sb) (f := of_ sb + i * 3) (vs := [iv x.f0, iv x.f1, iv x.f2]) ha (xW (t := 72) (x := 25) (d := 26) (ty := 72)) rfl (by kernel_rfl) (fun w' hw o u hu => by rw [hw]; exact (RdE.at_ (hrb.sat hS) _ _ hx).2 o u hu)) fun a ha => ?_
  refine jV (qZ 7 [iv 0, iv 0, iv 0] 72 (ptr · 0) ha hS fun b6 w a hb7 hS ha => ?_)
  refine jV (o_sa 0 ha (yX (t := 72) (x := 7) (y := 26)) hS fun w a hS ha => ?_)
  refine jZ (jJ (wp_seq (jX [0, 1, 2, 3, 4, 5, 6, 7] (jY [(0, 27, ptr b6 0)] ha fun a ha => ?_))))
  refine qG (d := 28) (b := b6) (j := 0) ha (hS.blk 0 rfl) rfl fun a ha => ?_
  refine jY [(2, 29, .bool (decide (x.f0 = 4))), (3, 30, .bool (decide (x.f0 = 4)))] ha fun a ha => ?_
  by_cases c8 : x.f0 = 4
  ·
   replace ha := ha.turn 29 (.bool true) rfl (congrArg Value.bool (decide_eq_true c8));replace ha := ha.turn 30 (.bool true) rfl (congrArg Value.bool (decide_eq_true c8));refine jY [(4, 31, undef), (5, 32, undef), (6, 33, undef), (7, 34, .bool true)] ha fun a ha => ?_;refine jZ (jJ ?_);refine jH ha rfl rfl ?_;refine jX [0, 1, 2, 3, 4] (jY [(0, 35, .slice o.A o.n o.c), (1, 36, ptr b6 1)] ha fun a ha => ?_);refine qG (d := 37) (b := b6) (j := 1) ha (hS.blk 0 rfl) rfl fun a ha => ?_;replace hS := hS.pickN 3 [2, 0, 1];refine jV (qK 38 (vs := [.slice o.A o.n o.c, iv x.f1]) ha (put1_sat (x := x.f1) hS (by have h8 := putL_len (numsOf k45 (b.take i)) []; have h9 := numsOf_len k45 (b.take i); rw [List.length_take] at h9; simp only [List.length_nil] at h8; omega)) fun v9 w a hp10 ha => ?_);obtain ⟨po1, rfl, hS⟩ := hp10;refine jY [(4, 5, .slice po1.A po1.n po1.c)] ha fun a ha => ?_;refine jZ (in_n (jJ (jX [0, 1, 2] (jY [(0, 17, iv (i : Int))] ha fun a ha => ?_))));refine qH 18 ((i : Int) + 1) ha fun a ha => ?_;refine jY [(2, 6, iv ((i : Int) + 1))] ha fun a ha => ?_;refine jZ (jJ ?_);replace hS := hS.pickN 3 [2, 0];replace hS : Sat w0 w ((SX.blk b1 [.slice s.A s.n s.c] 30) :: (rI po1 (putL [] (numsOf k45 (b.take (i + 1))))) :: Rs) := by rw [numsOf_yes hx ((k45_iff _).2 (.inl c8)), putL_app]; exact hS
   exact ⟨_, by omega, i + 1, po1, rfl, hil, ha.keeps [1, 2, 4, 5, 6] _ rfl, hS⟩
  replace ha := ha.turn 29 (.bool false) rfl (congrArg Value.bool (decide_eq_false c8))
  replace ha := ha.turn 30 (.bool false) rfl (congrArg Value.bool (decide_eq_false c8))
  refine jY [(4, 31, ptr b6 0)] ha fun a ha => ?_
  refine qG (d := 32) (b := b6) (j := 0) ha (hS.blk 0 rfl) rfl fun a ha => ?_
  refine jY [(6, 33, .bool (decide (x.f0 = 5))), (7, 34, .bool (decide (x.f0 = 5)))] ha fun a ha => ?_
  refine jZ (jJ ?_)
  by_cases c11 : x.f0 = 5
  ·
   refine jH ha rfl (decide_eq_true c11) ?_;refine jX [0, 1, 2, 3, 4] (jY [(0, 35, .slice o.A o.n o.c), (1, 36, ptr b6 1)] ha fun a ha => ?_);refine qG (d := 37) (b := b6) (j := 1) ha (hS.blk 0 rfl) rfl fun a ha => ?_;replace hS := hS.pickN 3 [2, 0, 1];refine jV (qK 38 (vs := [.slice o.A o.n o.c, iv x.f1]) ha (put1_sat (x := x.f1) hS (by have h8 := putL_len (numsOf k45 (b.take i)) []; have h9 := numsOf_len k45 (b.take i); rw [List.length_take] at h9; simp only [List.length_nil] at h8; omega)) fun v12 w a hp13 ha => ?_);obtain ⟨po2, rfl, hS⟩ := hp13;refine jY [(4, 5, .slice po2.A po2.n po2.c)] ha fun a ha => ?_;refine jZ (in_n (jJ (jX [0, 1, 2] (jY [(0, 17, iv (i : Int))] ha fun a ha => ?_))));refine qH 18 ((i : Int) + 1) ha fun a ha => ?_;refine jY [(2, 6, iv ((i : Int) + 1))] ha fun a ha => ?_;refine jZ (jJ ?_);replace hS := hS.pickN 3 [2, 0];replace hS : Sat w0 w ((SX.blk b1 [.slice s.A s.n s.c] 30) :: (rI po2 (putL [] (numsOf k45 (b.take (i + 1))))) :: Rs) := by rw [numsOf_yes hx ((k45_iff _).2 (.inr c11)), putL_app]; exact hS
   exact ⟨_, by omega, i + 1, po2, rfl, hil, ha.keeps [1, 2, 4, 5, 6] _ rfl, hS⟩
  refine jU ha rfl (decide_eq_false c11) ?_
  refine wp_skip (in_n (jJ (jX [0, 1, 2] (jY [(0, 17, iv (i : Int))] ha fun a ha => ?_))))
  refine qH 18 ((i : Int) + 1) ha fun a ha => ?_
  refine jY [(2, 6, iv ((i : Int) + 1))] ha fun a ha => ?_
  refine jZ (jJ ?_)
  replace hS := hS.pickN 3 [1, 2]
  replace hS : Sat w0 w ((SX.blk b1 [.slice s.A s.n s.c] 30) :: (rI o (putL [] (numsOf k45 (b.take (i + 1))))) :: Rs) := by rw [numsOf_no hx (k45_no c8 c11)]; exact hS
  exact ⟨_, by omega, i + 1, o, rfl, hil, ha.keeps [1, 2, 4, 5, 6] _ rfl, hS⟩
 refine jU ha rfl (decide_eq_false c5) ?_
 refine wp_exit (qJ (qJ (in_x (jJ (wp_seq (jX [0, 1] (jY [(0, 39, .slice o.A o.n o.c), (1, 4, .slice o.A o.n o.c)] ha fun a ha => ?_)))))))
 refine jZ (jJ (wp_ret (qQ ha (by kernel_rfl) (qU (t := 4) ha rfl) ?_)))
 have hie : i = b.length := by omega
 rw [hie, List.take_length, putL_asc] at hS
 exact ⟨o, rfl, hS.pickN 2 [1]⟩
theorem code72 : Try.f72.body = some (Code.seq (cr Try.f72 0 false) (Code.seq (cr Try.f72 1 false) (Code.seq (Code.seq (cr Try.f72 2 false) (Code.block 0 (Code.loop (Code.seq (Code.seq (cr Try.f72 3 false) (Code.cond (Operand.tmp 14) Code.skip (Code.exit 0))) (Code.seq (Code.block 1 (Code.seq (cr Try.f72 5 true) (Code.block 2 (Code.loop (Code.seq (cr Try.f72 6 false) (Code.seq (Code.cond (Operand.tmp 29) Code.skip (Code.exit 2)) (Code.seq (Code.block 3 (Code.seq (cr Try.f72 7 false) (Code.seq (cr Try.f72 8 false) (Code.cond (Operand.tmp 35) (cr Try.f72 9 false) Code.skip)))) (cr Try.f72 10 false)))))))) (cr Try.f72 4 false)))))) (Code.seq (cr Try.f72 11 false) Code.ret)))) := by kernel_rfl
theorem reachI_sat {w0 w : World} {Rs : List Asn} {s : Sl} {l : List (List ST)} {f : Int} (hS : Sat w0 w Rs) (hr : RdP w0 s l) (hf : Fits l) (hpg : programB l = true) (hfx : 0 ≤ f ∧ f < (l.length : Int)) :
  Calls Try.prog 72 #[.agg #[.slice s.A s.n s.c], iv f] w (Ret fun r w' => ∃ o : Sl, r = .slice o.A o.n o.c ∧ Sat w0 w' (SX.row (.slice o.A o.n o.c) 3 1 (SX.encI (reachP l f)) :: Rs)) := by
 have hlen := hf.len
 have hl6 : l.length ≤ 6 := by have h9 := hpg; simp only [programB, Bool.and_eq_true, decide_eq_true_eq] at h9; exact h9.1.2
 refine enter (n := 43) Try.func72 code72 (by kernel_rfl) (Nat.le_of_ble_eq_true rfl) (fun a ha => ?_)
 replace ha : Has 43 [(0, .agg #[.slice s.A s.n s.c]), (1, iv f)] a := ha
 refine wp_seq (jX [0, 1] (jV (qZ 2 [.slice s.A s.n s.c] 30 (ptr · 0) ha hS fun b1 w a hb2 hS ha => ?_)))
 refine jY [(1, 4, .slice none 0 0)] ha fun a ha => ?_
 refine jZ (jJ (wp_seq (jX [0, 1, 2] (jY [(0, 9, iv f)] ha fun a ha => ?_))))
 refine jV (qZ 10 [iv f] 3 (fun b => .slice (some ⟨b, 0, none⟩) 1 1) ha hS fun b3 w a hb4 hS ha => ?_)
 refine jY [(2, 5, .slice (some ⟨b3, 0, none⟩) 1 1)] ha fun a ha => ?_
 refine jZ (jJ (wp_seq (wp_seq (jX [0] (jY [(0, 6, iv 0)] ha fun a ha => ?_)))))
 refine jZ (jJ (wp_block ?_))
 replace hS := blkRow hS 1 1 0 rfl rfl (by decide)
 replace hS := hS.pickN 2 [1, 0]
 replace hS : Sat w0 w ((SX.blk b1 [.slice s.A s.n s.c] 30) :: (rI (⟨some ⟨b3, 0, none⟩, 1, 1⟩ : Sl) (rcN l f 0)) :: Rs) := hS
 refine wp_loop_ghost (fun n_ a_ w_ => ∃ (m : Nat) (o : Sl), n_ = l.length - m ∧ (m ≤ (rcN l f m).length) ∧ (m ≤ l.length) ∧ Has 43 [(2, ptr b1 0), (4, .slice none 0 0), (5, .slice o.A o.n o.c), (6, iv (m : Int))] a_ ∧ Sat w0 w_ ((SX.blk b1 [.slice s.A s.n s.c] 30) :: (rI o (rcN l f m)) :: Rs)) _ ⟨0, ⟨some ⟨b3, 0, none⟩, 1, 1⟩, rfl, Nat.zero_le _, Nat.zero_le _, ha.keeps [2, 4, 5, 6] _ rfl, hS⟩ ?_
 rintro n_ a w ⟨m, o, rfl, hm, hml, ha, hS⟩
 have hol : o.n = (rcN l f m).length := (hS.rdRow (s := o) 1 rfl).len
 have hok := rcN_ok hpg hfx m
 have hok3 := hok.len
 refine wp_seq (wp_seq (jX [0, 1, 2, 3] (jY [(0, 11, iv (m : Int)), (1, 12, .slice o.A o.n o.c), (2, 13, iv (o.n : Int)), (3, 14, .bool (decide ((m : Int) < (o.n : Int))))] ha fun a ha => ?_)))
 refine jZ (jJ ?_)
 by_cases c5 : (m : Int) < (o.n : Int)
 ·
  have hmo : m < (rcN l f m).length := by omega
  obtain ⟨y, hy⟩ : ∃ y, (rcN l f m)[m]? = some y := ⟨_, List.getElem?_eq_getElem hmo⟩
  have hyr := hok.rg y (List.mem_of_getElem? hy)
  obtain ⟨b, hb⟩ : ∃ b, l[y.toNat]? = some b := ⟨_, List.getElem?_eq_getElem (by omega)⟩
  have hb1 : b.length ≤ 8 := (okJ_of hpg (List.mem_of_getElem? hb)).2
  obtain ⟨hA0, sb, hcb, hrb⟩ := body_rd hr hb
  have hsb := hrb.len
  have hcl9 := calledP_len k45 b
  have hlm := hok.len
  refine jH ha rfl (decide_eq_true c5) ?_
  refine wp_skip (jJ (wp_seq (wp_block (wp_seq ?_))))
  replace hS := hS.pickN 2 [1, 0]
  replace hS : Sat w0 w ((SX.row (.slice o.A o.n o.c) 3 1 (encJ (rcN l f m))) :: (SX.blk b1 [.slice s.A s.n s.c] 30) :: Rs) := by rw [← encJ_I]; exact hS
  refine yV 9 12 hS fun w hS => ?_
  refine qY (k := 11) [(0, 17, ptr b1 0)] ha (.inr hS) fun a ha => ?_
  refine d_ldN 1 (d := 18) (b := b1) (j := 0) ha hS (fun _ hw => hw.blk 1 rfl) rfl fun a ha => ?_
  refine qY (k := 8) [(2, 19, .slice o.A o.n o.c), (3, 20, iv (m : Int))] ha (.inr hS) fun a ha => ?_
  refine yJ 4 (.pointer (some ⟨bk o, m * 1, none⟩)) ha (xQ (s := o) (el := 3) (sz := 1) (j := m) ha (xK (t := 44) (x := 19) (y := 20) (d := 21)) rfl rfl (by kernel_rfl) (by kernel_rfl) (hS.rowA (s := o) 0 rfl (by have := (List.getElem?_eq_some_iff.1 hy).1; rw [encJ_length]; omega)) (rfl) (by have h9 := hS.rowL (s := o) (enc := cellsJ) 0 cellsJ_len (by decide) rfl; have := (List.getElem?_eq_some_iff.1 hy).1; omega)) (.inr hS) fun a ha => ?_
  refine d_valN (i := 5) (v := iv y) ha (by decide) (qW (v := iv y) ha (xW (t := 3) (x := 21) (d := 22) (ty := 3)) rfl (by kernel_rfl) (fun w' hw => ((hw.rdC (s := o) 0 rfl)).cells _ _ ((flat_get (enc := cellsJ) (o := 0) cellsJ_len hy (by decide)).trans rfl))) hS (by kernel_rfl) (by kernel_rfl) (xV (yZ (xV (xV (yZ (xV (yQ))))))) fun a ha => ?_
  refine yJ 6 (.pointer (some ⟨bk s, of_ s + y.toNat * 1, none⟩)) ha (xY (s := s) (el := 70) (sz := 1) (j := y.toNat) ha (xK (t := 28) (x := 18) (y := 22) (d := 23)) rfl rfl (by kernel_rfl) (by kernel_rfl) hA0 (Int.toNat_of_nonneg hyr.1).symm (by rw [hr.len]; omega)) (.inr hS) fun a ha => ?_
  refine yG 7 (.slice sb.A sb.n sb.c) ha (qW ha (xW (t := 70) (x := 23) (d := 24) (ty := 70)) rfl (by kernel_rfl) (fun w' hw => by rw [Nat.mul_one]; exact pw_cell_below (Sat.below hw) hcb)) hS fun a ha => ?_
  refine qY (k := 3) [(11, 28, iv 0)] ha (.inr hS) fun a ha => ?_
  refine qV 8 (qZ 25 [iv 4, iv 5] 3 (fun b => .slice (some ⟨b, 0, none⟩) 2 2) ha hS fun b6 w a hb7 hS ha => ?_)
  refine ⟨.inr (Sat.rest [_] hS), ?_⟩
  replace hS := blkRow hS 1 2 0 rfl rfl (by decide)
  replace hS : Sat w0 w ((rI (⟨some ⟨b6, 0, none⟩, 2, 2⟩ : Sl) [4, 5]) :: (SX.row (.slice o.A o.n o.c) 3 1 (encJ (rcN l f m))) :: (SX.blk b1 [.slice s.A s.n s.c] 30) :: Rs) := hS
  refine qV 9 (qK 26 (vs := [.slice sb.A sb.n sb.c, .slice (some ⟨b6, 0, none⟩) 2 2]) ha (called_sat (sk := (⟨some ⟨b6, 0, none⟩, 2, 2⟩ : Sl)) (ks := k45) hS hrb (by omega)) fun v8 w a hp9 ha => ?_)
  obtain ⟨ro1, rfl, hS⟩ := hp9
  refine zX (qY (k := 0) [(10, 27, iv (ro1.n : Int))] ha (.inl (by kernel_rfl)) fun a ha => ?_)
  refine xH (jJ (wp_block ?_))
  replace hS := hS.pickN 3 [2, 1, 0]
  replace hS : Sat w0 w ((SX.blk b1 [.slice s.A s.n s.c] 30) :: (rI o (addL (rcN l f m) ((calledP k45 b).take 0))) :: (SX.row (.slice ro1.A ro1.n ro1.c) 3 1 (encJ (calledP k45 b))) :: Rs) := by have h9 := hS; rw [← encJ_I (calledP k45 b)]; rw [← encJ_I (rcN l f m)] at h9; exact h9
  have hnl : ro1.n = (calledP k45 b).length := hS.rowL (s := ro1) (enc := cellsJ) 2 cellsJ_len (by decide) rfl
  refine wp_loop_ghost (fun n_ a_ w_ => ∃ (j : Nat) (o2 : Sl), n_ = (calledP k45 b).length - j ∧ (j ≤ (calledP k45 b).length) ∧ Has 43 [(2, ptr b1 0), (4, .slice none 0 0), (6, iv (m : Int)), (11, iv (m : Int)), (12, .slice o.A o.n o.c), (13, iv (o.n : Int)), (14, .bool (decide ((m : Int) < (o.n : Int)))), (17, ptr b1 0), (18, .slice s.A s.n s.c), (19, .slice o.A o.n o.c), (20, iv (m : Int)), (21, .pointer (some ⟨bk o, m * 1, none⟩)), (22, iv y), (23, .pointer (some ⟨bk s, of_ s + y.toNat * 1, none⟩)), (24, .slice sb.A sb.n sb.c), (25, .slice (some ⟨b6, 0, none⟩) 2 2), (26, .slice ro1.A ro1.n ro1.c), (27, iv (ro1.n : Int)), (5, .slice o2.A o2.n o2.c), (28, iv (j : Int))] a_ ∧ Sat w0 w_ ((SX.blk b1 [.slice s.A s.n s.c] 30) :: (rI o2 (addL (rcN l f m) ((calledP k45 b).take j))) :: (SX.row (.slice ro1.A ro1.n ro1.c) 3 1 (encJ (calledP k45 b))) :: Rs)) _ ⟨0, o, rfl, Nat.zero_le _, ha.keeps [2, 4, 6, 11, 12, 13, 14, 17, 18, 19, 20, 21, 22, 23, 24, 25, 26, 27, 5, 28] _ rfl, hS⟩ ?_
  rintro n_ a w ⟨j, o2, rfl, hj, ha, hS⟩
  refine wp_seq (jX [0] (jY [(0, 29, .bool (decide ((j : Int) < (ro1.n : Int))))] ha fun a ha => ?_))
  refine jZ (jJ (wp_seq ?_))
  by_cases c10 : (j : Int) < (ro1.n : Int)
  ·
   have hjl : j < (calledP k45 b).length := by omega
   obtain ⟨u, hu⟩ : ∃ u, (calledP k45 b)[j]? = some u := ⟨_, List.getElem?_eq_getElem hjl⟩;have hal : (addL (rcN l f m) ((calledP k45 b).take j)).length ≤ l.length := (hok.addL _ (fun g hg => calledP_rng hpg (List.mem_of_getElem? hb) g (List.mem_of_mem_take hg))).len;refine jH ha rfl (decide_eq_true c10) ?_;refine wp_skip (jJ (wp_seq (wp_block (wp_seq (jX [0, 1, 2] (qX (.pointer (some ⟨bk ro1, j * 1, none⟩)) ha (xQ (s := ro1) (el := 3) (sz := 1) (j := j) ha (xK (t := 44) (x := 26) (y := 28) (d := 30)) rfl rfl (by kernel_rfl) (by kernel_rfl) (hS.rowA (s := ro1) 2 rfl (by have := (List.getElem?_eq_some_iff.1 hu).1; rw [encJ_length]; omega)) (rfl) (by have h9 := hS.rowL (s := ro1) (enc := cellsJ) 2 cellsJ_len (by decide) rfl; have := (List.getElem?_eq_some_iff.1 hu).1; omega)) fun a ha => ?_))))));refine qX (iv u) ha (qW ha (xW (t := 3) (x := 30) (d := 31) (ty := 3)) rfl (by kernel_rfl) (fun w' hw => by rw [hw]; exact (hS.rdC (s := ro1) 2 rfl).cells _ _ ((flat_get (enc := cellsJ) (o := 0) cellsJ_len hu (by decide)).trans rfl))) fun a ha => ?_;refine jY [(2, 8, iv u)] ha fun a ha => ?_;refine jZ (jJ (wp_seq (jX [0, 1, 2, 3] (jY [(0, 32, .slice o2.A o2.n o2.c), (1, 33, iv u)] ha fun a ha => ?_))));refine jV (qK 34 (vs := [.slice o2.A o2.n o2.c, iv u]) ha (ocont_sat hS (hS.rdRow (s := o2) 1 rfl) u) fun v11 w a hp12 ha => ?_);obtain ⟨rfl, hS⟩ := hp12;refine jY [(3, 35, .bool (!(((addL (rcN l f m) ((calledP k45 b).take j)).contains u))))] ha fun a ha => ?_;refine jZ (jJ ?_)
   rcases Bool.eq_false_or_eq_true ((addL (rcN l f m) ((calledP k45 b).take j)).contains u) with c13 | c13
   ·
    refine jU ha rfl (yY c13) ?_;refine wp_skip (in_n (jJ (jX [0, 1] (qH 40 ((j : Int) + 1) ha fun a ha => ?_))));refine jY [(1, 28, iv ((j : Int) + 1))] ha fun a ha => ?_;refine jZ (jJ ?_);replace hS : Sat w0 w ((SX.blk b1 [.slice s.A s.n s.c] 30) :: (rI o2 (addL (rcN l f m) ((calledP k45 b).take j))) :: (SX.row (.slice ro1.A ro1.n ro1.c) 3 1 (encJ (calledP k45 b))) :: Rs) := hS;replace hS : Sat w0 w ((SX.blk b1 [.slice s.A s.n s.c] 30) :: (rI o2 (addL (rcN l f m) ((calledP k45 b).take (j + 1)))) :: (SX.row (.slice ro1.A ro1.n ro1.c) 3 1 (encJ (calledP k45 b))) :: Rs) := by rw [addL_next hu, add1_yes c13]; exact hS
    exact ⟨_, by omega, j + 1, o2, rfl, hjl, ha.keeps [2, 4, 6, 11, 12, 13, 14, 17, 18, 19, 20, 21, 22, 23, 24, 25, 26, 27, 5, 28] _ rfl, hS⟩
   refine jH ha rfl (yU c13) ?_;refine jX [0, 1, 2, 3, 4] (jY [(0, 36, .slice o2.A o2.n o2.c), (1, 37, iv u)] ha fun a ha => ?_);refine jV (qZ 38 [iv u] 3 (fun b => .slice (some ⟨b, 0, none⟩) 1 1) ha hS fun b14 w a hb15 hS ha => ?_);refine jV (o_ap 39 2 0 (SX.encI ((addL (rcN l f m) ((calledP k45 b).take j)) ++ [u])) ha hS rfl rfl (by rw [encI_length]; simp only [List.length_cons, List.length_nil]; omega) (encI_snoc _ _) fun s19 w a hS hn20 ha => ?_);refine jY [(4, 5, .slice s19.A s19.n s19.c)] ha fun a ha => ?_;refine jZ (in_n (jJ (jX [0, 1] (qH 40 ((j : Int) + 1) ha fun a ha => ?_))));refine jY [(1, 28, iv ((j : Int) + 1))] ha fun a ha => ?_;refine jZ (jJ ?_);replace hS := hS.pickN 4 [1, 2, 3];replace hS : Sat w0 w ((SX.blk b1 [.slice s.A s.n s.c] 30) :: (rI s19 (addL (rcN l f m) ((calledP k45 b).take (j + 1)))) :: (SX.row (.slice ro1.A ro1.n ro1.c) 3 1 (encJ (calledP k45 b))) :: Rs) := by rw [addL_next hu, add1_no c13]; exact hS
   exact ⟨_, by omega, j + 1, s19, rfl, hjl, ha.keeps [2, 4, 6, 11, 12, 13, 14, 17, 18, 19, 20, 21, 22, 23, 24, 25, 26, 27, 5, 28] _ rfl, hS⟩
  refine jU ha rfl (decide_eq_false c10) ?_
  refine wp_exit (qJ (qJ (in_x (in_n (jJ (jX [0, 1, 2] (jY [(0, 15, iv (m : Int))] ha fun a ha => ?_)))))))
  refine qH 16 ((m : Int) + 1) ha fun a ha => ?_
  refine jY [(2, 6, iv ((m : Int) + 1))] ha fun a ha => ?_
  refine jZ (jJ ?_)
  replace hS := hS.pickN 3 [0, 1]
  have hje : j = (calledP k45 b).length := by omega
  rw [hje, List.take_length, ← rcN_next hy hb] at hS
  have hm2 : (rcN l f (m + 1))[m]? = some y := by rw [rcN_next hy hb]; exact addL_get _ _ hy
  have hm3 := (List.getElem?_eq_some_iff.1 hm2).1
  replace hS : Sat w0 w ((SX.blk b1 [.slice s.A s.n s.c] 30) :: (rI o2 (rcN l f (m + 1))) :: Rs) := hS
  exact ⟨_, by omega, m + 1, o2, rfl, hm3, (by omega), ha.keeps [2, 4, 5, 6] _ rfl, hS⟩
 refine jU ha rfl (decide_eq_false c5) ?_
 refine wp_exit (qJ (qJ (in_x (jJ (wp_seq (jX [0, 1, 2] (jY [(0, 41, .slice o.A o.n o.c)] ha fun a ha => ?_)))))))
 replace hS := hS.pickN 2 [1, 0]
 refine jV (qK 42 (vs := [.slice o.A o.n o.c]) ha (asc_sat hS (by omega)) fun v21 w a hp22 ha => ?_)
 obtain ⟨ao1, rfl, hS⟩ := hp22
 refine jY [(2, 4, .slice ao1.A ao1.n ao1.c)] ha fun a ha => ?_
 refine jZ (jJ (wp_ret (qQ ha (by kernel_rfl) (qU (t := 4) ha rfl) ?_)))
 have hE : reachP l f = asc (rcN l f m) := reach_at hml (by omega)
 rw [hE]
 exact ⟨ao1, rfl, hS.pickN 2 [0]⟩
theorem code68 : Try.f68.body = some (Code.seq (cr Try.f68 0 false) (Code.seq (cr Try.f68 1 false) (Code.seq (Code.seq (cr Try.f68 2 false) (Code.block 0 (Code.loop (Code.seq (Code.seq (cr Try.f68 3 false) (Code.cond (Operand.tmp 17) Code.skip (Code.exit 0))) (Code.seq (Code.block 1 (Code.seq (cr Try.f68 5 true) (Code.seq (cr Try.f68 6 false) (Code.block 2 (Code.loop (Code.seq (Code.seq (cr Try.f68 7 false) (Code.cond (Operand.tmp 29) Code.skip (Code.exit 2))) (Code.seq (Code.block 3 (Code.seq (cr Try.f68 9 false) (Code.cond (Operand.tmp 38) (Code.seq (cr Try.f68 10 false) (cr Try.f68 11 false)) Code.skip))) (cr Try.f68 8 false)))))))) (cr Try.f68 4 false)))))) (Code.seq (cr Try.f68 12 false) Code.ret)))) := by kernel_rfl
theorem reachQ_sat {w0 w : World} {Rs : List Asn} {s : Sl} {l : List (List ST)} {f : Int} (hS : Sat w0 w Rs) (hr : RdP w0 s l) (hf : Fits l) (hpg : programB l = true) (hfx : 0 ≤ f ∧ f < (l.length : Int)) :
  Calls Try.prog 68 #[.agg #[.slice s.A s.n s.c], iv f] w (Ret fun r w' => ∃ o : Sl, r = .slice o.A o.n o.c ∧ Sat w0 w' (SX.row (.slice o.A o.n o.c) 3 1 (SX.encI (reachP l f)) :: Rs)) := by
 have hlen := hf.len
 have hl6 : l.length ≤ 6 := by have h9 := hpg; simp only [programB, Bool.and_eq_true, decide_eq_true_eq] at h9; exact h9.1.2
 refine enter (n := 53) Try.func68 code68 (by kernel_rfl) (Nat.le_of_ble_eq_true rfl) (fun a ha => ?_)
 replace ha : Has 53 [(0, .agg #[.slice s.A s.n s.c]), (1, iv f)] a := ha
 refine wp_seq (jX [0, 1] (jV (qZ 2 [.slice s.A s.n s.c] 30 (ptr · 0) ha hS fun b1 w a hb2 hS ha => ?_)))
 refine jY [(1, 4, .slice none 0 0)] ha fun a ha => ?_
 refine jZ (jJ (wp_seq (jX [0, 1, 2, 3, 4, 5] (jY [(0, 10, iv f)] ha fun a ha => ?_))))
 refine jV (qZ 11 [iv f] 3 (fun b => .slice (some ⟨b, 0, none⟩) 1 1) ha hS fun b3 w a hb4 hS ha => ?_)
 refine jY [(2, 12, iv f)] ha fun a ha => ?_
 refine jV (qZ 13 [iv f] 3 (fun b => .slice (some ⟨b, 0, none⟩) 1 1) ha hS fun b5 w a hb6 hS ha => ?_)
 refine jY [(4, 5, .slice (some ⟨b3, 0, none⟩) 1 1), (5, 6, .slice (some ⟨b5, 0, none⟩) 1 1)] ha fun a ha => ?_
 refine jZ (jJ (wp_seq (wp_seq (jX [0] (jY [(0, 7, iv 0)] ha fun a ha => ?_)))))
 refine jZ (jJ (wp_block ?_))
 replace hS := blkRow hS 1 1 0 rfl rfl (by decide)
 replace hS := blkRow hS 1 1 1 rfl rfl (by decide)
 replace hS := hS.pickN 3 [2, 0, 1]
 replace hS : Sat w0 w ((SX.blk b1 [.slice s.A s.n s.c] 30) :: (rI (⟨some ⟨b5, 0, none⟩, 1, 1⟩ : Sl) (rcN l f 0)) :: (rI (⟨some ⟨b3, 0, none⟩, 1, 1⟩ : Sl) (asc (rcN l f 0))) :: Rs) := by rw [show asc (rcN l f 0) = [f] from asc_one f]; exact hS
 refine wp_loop_ghost (fun n_ a_ w_ => ∃ (m : Nat) (o : Sl) (os : Sl), n_ = l.length - m ∧ (m ≤ (rcN l f m).length) ∧ (m ≤ l.length) ∧ Has 53 [(2, ptr b1 0), (4, .slice none 0 0), (6, .slice o.A o.n o.c), (7, iv (m : Int)), (5, .slice os.A os.n os.c)] a_ ∧ Sat w0 w_ ((SX.blk b1 [.slice s.A s.n s.c] 30) :: (rI o (rcN l f m)) :: (rI os (asc (rcN l f m))) :: Rs)) _ ⟨0, ⟨some ⟨b5, 0, none⟩, 1, 1⟩, ⟨some ⟨b3, 0, none⟩, 1, 1⟩, rfl, Nat.zero_le _, Nat.zero_le _, ha.keeps [2, 4, 6, 7, 5] _ rfl, hS⟩ ?_
 rintro n_ a w ⟨m, o, os, rfl, hm, hml, ha, hS⟩
 have hol : o.n = (rcN l f m).length := (hS.rdRow (s := o) 1 rfl).len
 have hok := rcN_ok hpg hfx m
 have hok3 := hok.len
 refine wp_seq (wp_seq (jX [0, 1, 2, 3] (jY [(0, 14, iv (m : Int)), (1, 15, .slice o.A o.n o.c), (2, 16, iv (o.n : Int)), (3, 17, .bool (decide ((m : Int) < (o.n : Int))))] ha fun a ha => ?_)))
 refine jZ (jJ ?_)
 by_cases c7 : (m : Int) < (o.n : Int)
 ·
  have hmo : m < (rcN l f m).length := by omega
  obtain ⟨y, hy⟩ : ∃ y, (rcN l f m)[m]? = some y := ⟨_, List.getElem?_eq_getElem hmo⟩
  have hyr := hok.rg y (List.mem_of_getElem? hy)
  obtain ⟨b, hb⟩ : ∃ b, l[y.toNat]? = some b := ⟨_, List.getElem?_eq_getElem (by omega)⟩
  have hb1 : b.length ≤ 8 := (okJ_of hpg (List.mem_of_getElem? hb)).2
  obtain ⟨hA0, sb, hcb, hrb⟩ := body_rd hr hb
  have hsb := hrb.len
  have hcl9 := calledP_len k45 b
  have hlm := hok.len
  refine jH ha rfl (decide_eq_true c7) ?_
  refine wp_skip (jJ (wp_seq (wp_block (wp_seq ?_))))
  replace hS := hS.pickN 3 [1, 0, 2]
  replace hS : Sat w0 w ((SX.row (.slice o.A o.n o.c) 3 1 (encJ (rcN l f m))) :: (SX.blk b1 [.slice s.A s.n s.c] 30) :: (rI os (asc (rcN l f m))) :: Rs) := by rw [← encJ_I]; exact hS
  refine yV 5 7 hS fun w hS => ?_
  refine zZ 0 20 ha hS (fun _ hw => hw.blk 1 rfl) fun a ha => ?_
  refine qY (k := 4) [(1, 21, .slice o.A o.n o.c), (2, 22, iv (m : Int))] ha (.inr hS) fun a ha => ?_
  refine yJ 3 (.pointer (some ⟨bk o, m * 1, none⟩)) ha (xQ (s := o) (el := 3) (sz := 1) (j := m) ha (xK (t := 44) (x := 21) (y := 22) (d := 23)) rfl rfl (by kernel_rfl) (by kernel_rfl) (hS.rowA (s := o) 0 rfl (by have := (List.getElem?_eq_some_iff.1 hy).1; rw [encJ_length]; omega)) (rfl) (by have h9 := hS.rowL (s := o) (enc := cellsJ) 0 cellsJ_len (by decide) rfl; have := (List.getElem?_eq_some_iff.1 hy).1; omega)) (.inr hS) fun a ha => ?_
  refine yG 4 (iv y) ha (qW ha (xW (t := 3) (x := 23) (d := 24) (ty := 3)) rfl (by kernel_rfl) (fun w' hw => ((hw.rdC (s := o) 0 rfl)).cells _ _ ((flat_get (enc := cellsJ) (o := 0) cellsJ_len hy (by decide)).trans rfl))) hS fun a ha => ?_
  refine qV 5 (qK 25 (vs := [.agg #[.slice s.A s.n s.c], iv y]) ha (qcalls_sat hS hr hf hpg hyr hb) fun v8 w a hp9 ha => ?_)
  obtain ⟨ro1, rfl, hS⟩ := hp9
  refine zX (qY (k := 0) [(6, 8, .slice ro1.A ro1.n ro1.c)] ha (.inl (by kernel_rfl)) fun a ha => ?_)
  refine xH (jJ (wp_seq (jX [0] (jY [(0, 9, iv 0)] ha fun a ha => ?_))))
  refine jZ (jJ (wp_block ?_))
  replace hS := hS.pickN 4 [2, 1, 0, 3]
  replace hS : Sat w0 w ((SX.blk b1 [.slice s.A s.n s.c] 30) :: (rI o (addL (rcN l f m) ((calledP k45 b).take 0))) :: (SX.row (.slice ro1.A ro1.n ro1.c) 3 1 (encJ (calledP k45 b))) :: (rI os (asc (addL (rcN l f m) ((calledP k45 b).take 0)))) :: Rs) := by have h9 := hS; rw [← encJ_I (calledP k45 b)]; rw [← encJ_I (rcN l f m)] at h9; exact h9
  have hnl : ro1.n = (calledP k45 b).length := hS.rowL (s := ro1) (enc := cellsJ) 2 cellsJ_len (by decide) rfl
  refine wp_loop_ghost (fun n_ a_ w_ => ∃ (j : Nat) (o2 : Sl) (os2 : Sl), n_ = (calledP k45 b).length - j ∧ (j ≤ (calledP k45 b).length) ∧ Has 53 [(2, ptr b1 0), (4, .slice none 0 0), (7, iv (m : Int)), (14, iv (m : Int)), (15, .slice o.A o.n o.c), (16, iv (o.n : Int)), (17, .bool (decide ((m : Int) < (o.n : Int)))), (20, .agg #[.slice s.A s.n s.c]), (21, .slice o.A o.n o.c), (22, iv (m : Int)), (23, .pointer (some ⟨bk o, m * 1, none⟩)), (24, iv y), (25, .slice ro1.A ro1.n ro1.c), (8, .slice ro1.A ro1.n ro1.c), (6, .slice o2.A o2.n o2.c), (9, iv (j : Int)), (5, .slice os2.A os2.n os2.c)] a_ ∧ Sat w0 w_ ((SX.blk b1 [.slice s.A s.n s.c] 30) :: (rI o2 (addL (rcN l f m) ((calledP k45 b).take j))) :: (SX.row (.slice ro1.A ro1.n ro1.c) 3 1 (encJ (calledP k45 b))) :: (rI os2 (asc (addL (rcN l f m) ((calledP k45 b).take j)))) :: Rs)) _ ⟨0, o, os, rfl, Nat.zero_le _, ha.keeps [2, 4, 7, 14, 15, 16, 17, 20, 21, 22, 23, 24, 25, 8, 6, 9, 5] _ rfl, hS⟩ ?_
  rintro n_ a w ⟨j, o2, os2, rfl, hj, ha, hS⟩
  refine wp_seq (wp_seq (jX [0, 1, 2, 3] (jY [(0, 26, iv (j : Int)), (1, 27, .slice ro1.A ro1.n ro1.c), (2, 28, iv (ro1.n : Int)), (3, 29, .bool (decide ((j : Int) < (ro1.n : Int))))] ha fun a ha => ?_)))
  refine jZ (jJ ?_)
  by_cases c10 : (j : Int) < (ro1.n : Int)
  ·
   have hjl : j < (calledP k45 b).length := by omega
   obtain ⟨u, hu⟩ : ∃ u, (calledP k45 b)[j]? = some u := ⟨_, List.getElem?_eq_getElem hjl⟩;have hal : (addL (rcN l f m) ((calledP k45 b).take j)).length ≤ l.length := (hok.addL _ (fun g hg => calledP_rng hpg (List.mem_of_getElem? hb) g (List.mem_of_mem_take hg))).len;refine jH ha rfl (decide_eq_true c10) ?_;refine wp_skip (jJ (wp_seq (wp_block (wp_seq (jX [0, 1, 2, 3, 4, 5, 6] (jY [(0, 32, .slice os2.A os2.n os2.c), (1, 33, .slice ro1.A ro1.n ro1.c), (2, 34, iv (j : Int))] ha fun a ha => ?_))))));refine qX (.pointer (some ⟨bk ro1, j * 1, none⟩)) ha (xQ (s := ro1) (el := 3) (sz := 1) (j := j) ha (xK (t := 44) (x := 33) (y := 34) (d := 35)) rfl rfl (by kernel_rfl) (by kernel_rfl) (hS.rowA (s := ro1) 2 rfl (by have := (List.getElem?_eq_some_iff.1 hu).1; rw [encJ_length]; omega)) (rfl) (by have h9 := hS.rowL (s := ro1) (enc := cellsJ) 2 cellsJ_len (by decide) rfl; have := (List.getElem?_eq_some_iff.1 hu).1; omega)) fun a ha => ?_;refine qX (iv u) ha (qW ha (xW (t := 3) (x := 35) (d := 36) (ty := 3)) rfl (by kernel_rfl) (fun w' hw => by rw [hw]; exact (hS.rdC (s := ro1) 2 rfl).cells _ _ ((flat_get (enc := cellsJ) (o := 0) cellsJ_len hu (by decide)).trans rfl))) fun a ha => ?_;refine jV (qK 37 (vs := [.slice os2.A os2.n os2.c, iv u]) ha (bhas_sat hS (hS.rdRow (s := os2) 3 rfl)) fun v11 w a hp12 ha => ?_);obtain ⟨rfl, hS⟩ := hp12;refine jY [(6, 38, .bool (!(((asc (addL (rcN l f m) ((calledP k45 b).take j))).contains u))))] ha fun a ha => ?_;refine jZ (jJ ?_)
   rcases Bool.eq_false_or_eq_true ((asc (addL (rcN l f m) ((calledP k45 b).take j))).contains u) with c13 | c13
   ·
    refine jU ha rfl (yY c13) ?_;refine wp_skip (in_n (jJ (jX [0, 1, 2] (jY [(0, 30, iv (j : Int))] ha fun a ha => ?_))));refine qH 31 ((j : Int) + 1) ha fun a ha => ?_;refine jY [(2, 9, iv ((j : Int) + 1))] ha fun a ha => ?_;refine jZ (jJ ?_);replace hS : Sat w0 w ((SX.blk b1 [.slice s.A s.n s.c] 30) :: (rI o2 (addL (rcN l f m) ((calledP k45 b).take j))) :: (SX.row (.slice ro1.A ro1.n ro1.c) 3 1 (encJ (calledP k45 b))) :: (rI os2 (asc (addL (rcN l f m) ((calledP k45 b).take j)))) :: Rs) := hS;have hq9 : (addL (rcN l f m) ((calledP k45 b).take j)).contains u = true := by rw [← asc_cont]; exact c13
    replace hS : Sat w0 w ((SX.blk b1 [.slice s.A s.n s.c] 30) :: (rI o2 (addL (rcN l f m) ((calledP k45 b).take (j + 1)))) :: (SX.row (.slice ro1.A ro1.n ro1.c) 3 1 (encJ (calledP k45 b))) :: (rI os2 (asc (addL (rcN l f m) ((calledP k45 b).take (j + 1))))) :: Rs) := by rw [addL_next hu, add1_yes hq9]; exact hS
    exact ⟨_, by omega, j + 1, o2, os2, rfl, hjl, ha.keeps [2, 4, 7, 14, 15, 16, 17, 20, 21, 22, 23, 24, 25, 8, 6, 9, 5] _ rfl, hS⟩
   refine jH ha rfl (yU c13) ?_;refine wp_seq (jX [0, 1, 2, 3, 4, 5, 6] (jY [(0, 39, .slice os2.A os2.n os2.c), (1, 40, .slice ro1.A ro1.n ro1.c), (2, 41, iv (j : Int))] ha fun a ha => ?_));refine qX (.pointer (some ⟨bk ro1, j * 1, none⟩)) ha (xQ (s := ro1) (el := 3) (sz := 1) (j := j) ha (xK (t := 44) (x := 40) (y := 41) (d := 42)) rfl rfl (by kernel_rfl) (by kernel_rfl) (hS.rowA (s := ro1) 2 rfl (by have := (List.getElem?_eq_some_iff.1 hu).1; rw [encJ_length]; omega)) (rfl) (by have h9 := hS.rowL (s := ro1) (enc := cellsJ) 2 cellsJ_len (by decide) rfl; have := (List.getElem?_eq_some_iff.1 hu).1; omega)) fun a ha => ?_;refine qX (iv u) ha (qW ha (xW (t := 3) (x := 42) (d := 43) (ty := 3)) rfl (by kernel_rfl) (fun w' hw => by rw [hw]; exact (hS.rdC (s := ro1) 2 rfl).cells _ _ ((flat_get (enc := cellsJ) (o := 0) cellsJ_len hu (by decide)).trans rfl))) fun a ha => ?_;replace hS := hS.pickN 4 [3, 0, 1, 2];refine jV (qK 44 (vs := [.slice os2.A os2.n os2.c, iv u]) ha (put1_sat (x := u) hS (by have := asc_le (addL (rcN l f m) ((calledP k45 b).take j)); omega)) fun v14 w a hp15 ha => ?_);obtain ⟨po1, rfl, hS⟩ := hp15;refine jY [(6, 5, .slice po1.A po1.n po1.c)] ha fun a ha => ?_;refine jZ (jJ (jX [0, 1, 2, 3, 4, 5, 6, 7] (jY [(0, 45, .slice o2.A o2.n o2.c), (1, 46, .slice ro1.A ro1.n ro1.c), (2, 47, iv (j : Int))] ha fun a ha => ?_)));refine qX (.pointer (some ⟨bk ro1, j * 1, none⟩)) ha (xQ (s := ro1) (el := 3) (sz := 1) (j := j) ha (xK (t := 44) (x := 46) (y := 47) (d := 48)) rfl rfl (by kernel_rfl) (by kernel_rfl) (hS.rowA (s := ro1) 3 rfl (by have := (List.getElem?_eq_some_iff.1 hu).1; rw [encJ_length]; omega)) (rfl) (by have h9 := hS.rowL (s := ro1) (enc := cellsJ) 3 cellsJ_len (by decide) rfl; have := (List.getElem?_eq_some_iff.1 hu).1; omega)) fun a ha => ?_;refine qX (iv u) ha (qW ha (xW (t := 3) (x := 48) (d := 49) (ty := 3)) rfl (by kernel_rfl) (fun w' hw => by rw [hw]; exact (hS.rdC (s := ro1) 3 rfl).cells _ _ ((flat_get (enc := cellsJ) (o := 0) cellsJ_len hu (by decide)).trans rfl))) fun a ha => ?_;refine jV (qZ 50 [iv u] 3 (fun b => .slice (some ⟨b, 0, none⟩) 1 1) ha hS fun b16 w a hb17 hS ha => ?_);refine jV (o_ap 51 3 0 (SX.encI ((addL (rcN l f m) ((calledP k45 b).take j)) ++ [u])) ha hS rfl rfl (by rw [encI_length]; simp only [List.length_cons, List.length_nil]; omega) (encI_snoc _ _) fun s21 w a hS hn22 ha => ?_);refine jY [(7, 6, .slice s21.A s21.n s21.c)] ha fun a ha => ?_;refine jZ (in_n (jJ (jX [0, 1, 2] (jY [(0, 30, iv (j : Int))] ha fun a ha => ?_))));refine qH 31 ((j : Int) + 1) ha fun a ha => ?_;refine jY [(2, 9, iv ((j : Int) + 1))] ha fun a ha => ?_;refine jZ (jJ ?_);replace hS := hS.pickN 5 [2, 3, 4, 1];have hq9 : (addL (rcN l f m) ((calledP k45 b).take j)).contains u = false := by rw [← asc_cont]; exact c13
   replace hS : Sat w0 w ((SX.blk b1 [.slice s.A s.n s.c] 30) :: (rI s21 (addL (rcN l f m) ((calledP k45 b).take (j + 1)))) :: (SX.row (.slice ro1.A ro1.n ro1.c) 3 1 (encJ (calledP k45 b))) :: (rI po1 (asc (addL (rcN l f m) ((calledP k45 b).take (j + 1))))) :: Rs) := by rw [addL_next hu, add1_no hq9]; rw [← asc_add]; exact hS
   exact ⟨_, by omega, j + 1, s21, po1, rfl, hjl, ha.keeps [2, 4, 7, 14, 15, 16, 17, 20, 21, 22, 23, 24, 25, 8, 6, 9, 5] _ rfl, hS⟩
  refine jU ha rfl (decide_eq_false c10) ?_
  refine wp_exit (qJ (qJ (in_x (in_n (jJ (jX [0, 1, 2] (jY [(0, 18, iv (m : Int))] ha fun a ha => ?_)))))))
  refine qH 19 ((m : Int) + 1) ha fun a ha => ?_
  refine jY [(2, 7, iv ((m : Int) + 1))] ha fun a ha => ?_
  refine jZ (jJ ?_)
  replace hS := hS.pickN 4 [0, 1, 3]
  have hje : j = (calledP k45 b).length := by omega
  rw [hje, List.take_length, ← rcN_next hy hb] at hS
  have hm2 : (rcN l f (m + 1))[m]? = some y := by rw [rcN_next hy hb]; exact addL_get _ _ hy
  have hm3 := (List.getElem?_eq_some_iff.1 hm2).1
  replace hS : Sat w0 w ((SX.blk b1 [.slice s.A s.n s.c] 30) :: (rI o2 (rcN l f (m + 1))) :: (rI os2 (asc (rcN l f (m + 1)))) :: Rs) := hS
  exact ⟨_, by omega, m + 1, o2, os2, rfl, hm3, (by omega), ha.keeps [2, 4, 6, 7, 5] _ rfl, hS⟩
 refine jU ha rfl (decide_eq_false c7) ?_
 refine wp_exit (qJ (qJ (in_x (jJ (wp_seq (jX [0, 1] (jY [(0, 52, .slice os.A os.n os.c), (1, 4, .slice os.A os.n os.c)] ha fun a ha => ?_)))))))
 refine jZ (jJ (wp_ret (qQ ha (by kernel_rfl) (qU (t := 4) ha rfl) ?_)))
 have hE : reachP l f = asc (rcN l f m) := reach_at hml (by omega)
 rw [hE]
 exact ⟨os, rfl, hS.pickN 3 [2]⟩
def KeptI (w0 : World) (l : List (List ST)) (R : List Int) (vs : List Sl) (i : Nat) : Prop := ∀ (k : Nat) (b : List ST), k < i → (keptL l R)[k]? = some b → ∃ A' c', vs[k]? = some ⟨A', b.length, c'⟩ ∧ b.length ≤ c' ∧ Kd.C k72 w0 A' b.length b
theorem kept_get {l : List (List ST)} {R : List Int} {i : Nat} {y : Int} {b : List ST} (hy : R[i]? = some y) (hb : l[y.toNat]? = some b) : (keptL l R)[i]? = some b := by unfold keptL; rw [List.getElem?_map, hy]; simp only [Option.map_some, List.getD, hb, Option.getD_some]
theorem kept_next {w0 : World} {l : List (List ST)} {R : List Int} {vs : List Sl} {i : Nat} {y : Int} {b : List ST} {A2 : Option Addr} {c2 : Nat} (hvl : vs.length = i) (hvs : KeptI w0 l R vs i) (hy : R[i]? = some y) (hb : l[y.toNat]? = some b) (hl2 : b.length ≤ c2) (hkd : Kd.C k72 w0 A2 b.length b) : KeptI w0 l R (vs ++ [⟨A2, b.length, c2⟩]) (i + 1) := by
  intro k c hk hc
  by_cases e9 : k < i
  · obtain ⟨A', c', h1, h2⟩ := hvs k c e9 hc
    exact ⟨A', c', by rw [List.getElem?_append_left (by omega)]; exact h1, h2⟩
  · obtain rfl : k = i := by omega
    obtain rfl := Option.some.inj (hc.symm.trans (kept_get hy hb));exact ⟨A2, c2, by rw [List.getElem?_append_right (by omega), hvl, Nat.sub_self]; rfl, hl2, hkd⟩
theorem keptRd {w0 w : World} {Rs : List Asn} {s : Sl} {vs : List Sl} {l : List (List ST)} {R : List Int} (h : Sat w0 w Rs) (i : Nat) (hi : Rs[i]? = some (SX.row s.v 70 1 (encSl vs))) (hl : vs.length = R.length) (hv : KeptI w0 l R vs R.length) : RdP w s (keptL l R) := by
  have hkl : (keptL l R).length = R.length := by unfold keptL; rw [List.length_map]
  obtain ⟨n, hn1, hn2⟩ := h.row i hi
  rw [encSl_length, Nat.mul_one] at hn1
  obtain ⟨A, m, c⟩ := s
  rcases hn2 with ⟨hv0, h0⟩ | ⟨g, cap, cur, hv0, _, hg, q3, q4, q5, q6⟩
  · simp only [Sl.v, Value.slice.injEq] at hv0
    obtain ⟨rfl, rfl, rfl⟩ := hv0;have hl0 : keptL l R = [] := List.eq_nil_of_length_eq_zero (by omega);rw [hl0];exact ⟨rfl, Nat.le_refl _, rfl, by simp, fun h => absurd h (Nat.lt_irrefl _)⟩
  · simp only [Sl.v, Value.slice.injEq] at hv0
    obtain ⟨rfl, rfl, rfl⟩ := hv0;have hml : maxLen ≤ 9223372036854775807 := by decide
    refine ⟨by simp only []; omega, by simp only []; omega, rfl, by omega, fun hp => ⟨⟨g, 0, none⟩, rfl, fun j b hj => ?_⟩⟩;have hjl : j < (keptL l R).length := (List.getElem?_eq_some_iff.1 hj).1;obtain ⟨A', c', h5, h6, h7⟩ := hv j b (by omega) hj;refine ⟨[.slice A' b.length c'], rfl, ⟨A', c', rfl, h6, Kd.C_below h7 h.below⟩, fun i u hu => ?_⟩
    obtain rfl : i = 0 := by
      have := (List.getElem?_eq_some_iff.1 hu).1
      simpa using this
    obtain rfl : Value.slice A' b.length c' = u := by simpa using hu
    simp only [Kd.slice, Nat.mul_one, Nat.add_zero];rw [add0, Nat.zero_add, cell_of_row w g j cur 70 (0, 0) hg];have h8 : (encSl vs)[j]? = some (.slice A' b.length c') := by rw [encSl_map, List.getElem?_map, h5]; rfl
    rw [← q6, List.getElem?_take, if_pos (by omega), Array.getElem?_toList] at h8;exact h8
theorem blkCell {w0 w : World} {Rs : List Asn} {b : Nat} {v : Value} {T : TypeId} (h : Sat w0 w Rs) (i : Nat) (hi : Rs[i]? = some (SX.blk b [v] T)) : w.cell? ⟨b, 0, none⟩ = some v := (cell_of_row w b 0 _ _ _ (h.blk i hi)).trans rfl
theorem tot_mm (g : ST → ST) : ∀ L : List (List ST), tot (L.map (List.map g)) = tot L
 | [] => rfl
 | b :: L => by have := tot_mm g L; simp [tot] at this ⊢; omega
theorem kept_fits {l : List (List ST)} (hf : Fits l) {R : List Int} (hpg : programB l = true) (h : NdR l.length R) : Fits (keptL l R) := by
 have h1 := numP_tot l (toR l.length R)
 rw [keep_eq hpg h, keepL, tot_mm] at h1
 refine ⟨?_, Nat.le_trans h1 hf.2⟩
 have := h.len
 unfold keptL
 rw [List.length_map]
 exact Nat.le_trans this hf.1
theorem kept_calls {l : List (List ST)} {R : List Int} (hpg : programB l = true) (h : NdR l.length R) : ∀ b ∈ keptL l R, ∀ x ∈ b, x.f0 = 4 ∨ x.f0 = 5 → 0 ≤ x.f1 ∧ x.f1 < (l.length : Int) := by
 intro b hb
 obtain ⟨g, hg, rfl⟩ := List.mem_map.1 hb
 have hr := h.rg g hg
 obtain ⟨c, hc⟩ : ∃ c, l[g.toNat]? = some c := ⟨_, List.getElem?_eq_getElem (by omega)⟩
 rw [show l.getD g.toNat [] = c by simp only [List.getD, hc, Option.getD_some]]
 exact okC_of hpg (List.mem_of_getElem? hc)
theorem liftSl {w0 w : World} {Rs : List Asn} {f : FuncId} {args : Array Value} {L : List (List ST)} (hS : Sat w0 w Rs) (h : Calls Try.prog f args w (Ret fun r w' => ∃ s : Sl, r = .slice s.A s.n s.c ∧ Sat w w' [prg w.heap.size s L])) : Calls Try.prog f args w (Ret fun r w' => ∃ s : Sl, r = .slice s.A s.n s.c ∧ Sat w0 w' (prg w0.heap.size s L :: Rs)) := h.mono fun e w' h => by
 cases e with
 | returned r => obtain ⟨s, h1, h2⟩ := h; exact ⟨s, h1, (show Sat w0 w' (prg w.heap.size s L :: Rs) from hS.comp h2).turn (i := 0) rfl (prg w0.heap.size s L) (kdS_lower hS.below.size w')⟩
 | _ => exact h.elim
theorem liftPI {w0 w : World} {Rs : List Asn} {F : Nat} {args : Array Value} {L : List (List ST)} {n : Int} {bo : Bool} (hS : Sat w0 w Rs) (h : Calls Try.prog F args w (Ret fun r w' => ∃ s : Sl, r = .tuple #[.agg #[s.v], .int .i64 n, .bool bo] ∧ Sat w w' [prg w.heap.size s L])) : Calls Try.prog F args w (Ret fun r w' => ∃ s : Sl, r = .tuple #[.agg #[s.v], .int .i64 n, .bool bo] ∧ Sat w0 w' (prg w0.heap.size s L :: Rs)) := h.mono fun e w' h => by
 cases e with
 | returned r => obtain ⟨s, h1, h2⟩ := h; exact ⟨s, h1, (show Sat w0 w' (prg w.heap.size s L :: Rs) from hS.comp h2).turn (i := 0) rfl (prg w0.heap.size s L) (kdS_lower hS.below.size w')⟩
 | _ => exact h.elim
theorem code73G : Try.f73.body = some (Code.seq (cr Try.f73 0 false) (Code.seq (cr Try.f73 1 false) (Code.seq (Code.seq (cr Try.f73 2 false) (Code.block 0 (Code.loop (Code.seq (cr Try.f73 3 false) (Code.seq (Code.cond (Operand.tmp 15) Code.skip (Code.exit 0)) (Code.seq (Code.block 1 (Code.seq (cr Try.f73 4 false) (Code.seq (cr Try.f73 5 false) (Code.seq (Code.seq (cr Try.f73 6 false) (Code.block 2 (Code.loop (Code.seq (cr Try.f73 7 false) (Code.seq (Code.cond (Operand.tmp 23) Code.skip (Code.exit 2)) (Code.seq (Code.block 3 (Code.seq (cr Try.f73 8 false) (Code.seq (cr Try.f73 9 false) (Code.cond (Operand.tmp 28) (cr Try.f73 10 false) Code.skip)))) (cr Try.f73 11 false))))))) (cr Try.f73 12 false))))) (cr Try.f73 13 false))))))) (Code.seq (cr Try.f73 14 false) Code.ret)))) := by kernel_rfl
theorem renG_sat {w0 w : World} {Rs : List Asn} {s0 : Sl} {l : List (List ST)} {F : Nat} {fn : Func} {cap : List Value} {g : Int → Int} {N9 : Int} (hS : Sat w0 w Rs) (hr : RdP w0 s0 l) (hf : Fits l) (hok : ∀ b ∈ l, ∀ x ∈ b, x.f0 = 4 ∨ x.f0 = 5 → 0 ≤ x.f1 ∧ x.f1 < N9) (hfn : Try.prog.funcs[F]? = some fn) (hbn : (fn.body.isNone || fn.name == "runtime.NumGoroutine") = false)
  (hcl : ∀ (w1 : World) (Xs : List Asn) (x : Int), 0 ≤ x ∧ x < N9 → Sat w0 w1 (Xs ++ Rs) → Calls Try.prog F (.int .i64 x :: cap).toArray w1 (Ret fun r w' => r = .int .i64 (g x) ∧ Sat w0 w' (Xs ++ Rs))) :
  Calls Try.prog 73 #[.slice s0.A s0.n s0.c, .func (.func F) #[] cap.toArray] w (Ret fun r w' => ∃ o : Sl, r = .slice o.A o.n o.c ∧ Sat w0 w' (prg w0.heap.size o (l.map (List.map (renS g))) :: Rs)) := by
 have hsn := hr.len
 have hlen := hf.len
 refine enter (n := 44) Try.func73 code73G (by kernel_rfl) (Nat.le_of_ble_eq_true rfl) (fun a ha => ?_)
 replace ha : Has 44 [(0, .slice s0.A s0.n s0.c), (1, (.func (.func F) #[] cap.toArray))] a := ha
 refine wp_seq (jX [0] (jY [(0, 4, .slice none 0 0)] ha fun a ha => ?_))
 refine jZ (jJ (wp_seq (jX [0, 1] (jV (qZ 11 [] 70 (fun b => .slice (some ⟨b, 0, none⟩) 0 0) ha hS fun b1 w a hb2 hS ha => ?_)))))
 refine jY [(1, 5, .slice (some ⟨b1, 0, none⟩) 0 0)] ha fun a ha => ?_
 refine jZ (jJ (wp_seq (wp_seq (jX [0, 1, 2] (jY [(0, 12, .slice s0.A s0.n s0.c), (1, 13, iv (s0.n : Int)), (2, 14, iv 0)] ha fun a ha => ?_)))))
 refine jZ (jJ (wp_block ?_))
 replace hS := hS.blk0 1 0 rfl
 replace hS : Sat w0 w ((SX.row (.slice ((⟨some ⟨b1, 0, none⟩, 0, 0⟩ : Sl).A) ((⟨some ⟨b1, 0, none⟩, 0, 0⟩ : Sl).n) ((⟨some ⟨b1, 0, none⟩, 0, 0⟩ : Sl).c)) 70 1 (encSl [])) :: Rs) := hS
 replace hS := prgNew (m := 0) (s := ⟨some ⟨b1, 0, none⟩, 0, 0⟩) hS
 replace hS : Sat w0 w ((prg w0.heap.size (⟨some ⟨b1, 0, none⟩, 0, 0⟩ : Sl) (rnL g l 0)) :: Rs) := hS
 refine wp_loop_ghost (fun n_ a_ w_ => ∃ (i : Nat) (o : Sl), n_ = l.length - i ∧ (i ≤ l.length) ∧ Has 44 [(1, (.func (.func F) #[] cap.toArray)), (4, .slice none 0 0), (12, .slice s0.A s0.n s0.c), (13, iv (s0.n : Int)), (5, .slice o.A o.n o.c), (14, iv (i : Int))] a_ ∧ Sat w0 w_ ((prg w0.heap.size o (rnL g l i)) :: Rs)) _ ⟨0, ⟨some ⟨b1, 0, none⟩, 0, 0⟩, rfl, Nat.zero_le _, ha.keeps [1, 4, 12, 13, 5, 14] _ rfl, hS⟩ ?_
 rintro n_ a w ⟨i, o, rfl, hi, ha, hS⟩
 refine wp_seq (jX [0] (jY [(0, 15, .bool (decide ((i : Int) < (s0.n : Int))))] ha fun a ha => ?_))
 refine jZ (jJ (wp_seq ?_))
 by_cases c3 : (i : Int) < (s0.n : Int)
 ·
  have hil : i < l.length := by omega
  obtain ⟨b, hb⟩ : ∃ b, l[i]? = some b := ⟨_, List.getElem?_eq_getElem hil⟩
  have hb1 : b.length ≤ 1048576 := hf.each b (List.mem_of_getElem? hb)
  obtain ⟨hA0, A2, c2, hcb, hl2, hkd⟩ := rows_cells hr.rd i b hb
  refine jH ha rfl (decide_eq_true c3) ?_
  refine wp_skip (jJ (wp_seq (wp_block (wp_seq (jX [0, 1, 2] (qX (.pointer (some ⟨bk s0, of_ s0 + i * 1, none⟩)) ha (xX (s := s0) (el := 70) (sz := 1) (j := i) ha (xK (t := 28) (x := 12) (y := 14) (d := 16)) rfl rfl (by kernel_rfl) (by kernel_rfl) hA0 (by rw [hr.len]; omega)) fun a ha => ?_))))))
  refine qX (.slice A2 b.length c2) ha (qW (p := ⟨bk s0, of_ s0 + i * 1, none⟩) ha (xW (t := 70) (x := 16) (d := 17) (ty := 70)) rfl (by kernel_rfl) (fun w' hw => by rw [hw]; rw [Nat.mul_one]; exact pw_cell_below hS.below hcb)) fun a ha => ?_
  refine jY [(2, 7, .slice A2 b.length c2)] ha fun a ha => ?_
  refine jZ (jJ (wp_seq (jX [0, 1, 2] (jY [(0, 18, .slice A2 b.length c2)] ha fun a ha => ?_))))
  refine jV (qK 19 (vs := [.slice A2 b.length c2]) ha (cloneS_sat hS (Kd.C_below hkd hS.below) hl2 hb1) fun v4 w a hp5 ha => ?_)
  obtain ⟨z, rfl, hS⟩ := hp5
  refine jY [(2, 8, .slice z.A z.n z.c)] ha fun a ha => ?_
  refine jZ (jJ (wp_seq (wp_seq (jX [0, 1, 2] (jY [(0, 20, .slice z.A z.n z.c), (1, 21, iv (z.n : Int)), (2, 22, iv 0)] ha fun a ha => ?_)))))
  refine jZ (jJ (wp_block ?_))
  replace hS : Sat w0 w ((SX.row (.slice z.A z.n z.c) 72 3 (encS3 b)) :: (prg w0.heap.size o (rnL g l i)) :: Rs) := hS
  replace hS : Sat w0 w ((SX.row (.slice z.A z.n z.c) 72 3 (encS3 (cur (renS g) b 0))) :: (prg w0.heap.size o (rnL g l i)) :: Rs) := by rw [cur_zero]; exact hS
  have hzn : z.n = b.length := by have h9 := hS.rowL (s := z) (enc := cT) 0 cT_len (by decide) rfl; rw [cur_len] at h9; exact h9
  refine wp_loop_ghost (fun n_ a_ w_ => ∃ (k : Nat), n_ = b.length - k ∧ (k ≤ b.length) ∧ Has 44 [(1, (.func (.func F) #[] cap.toArray)), (4, .slice none 0 0), (12, .slice s0.A s0.n s0.c), (13, iv (s0.n : Int)), (5, .slice o.A o.n o.c), (14, iv (i : Int)), (15, .bool (decide ((i : Int) < (s0.n : Int)))), (16, .pointer (some ⟨bk s0, of_ s0 + i * 1, none⟩)), (17, .slice A2 b.length c2), (7, .slice A2 b.length c2), (18, .slice A2 b.length c2), (19, .slice z.A z.n z.c), (8, .slice z.A z.n z.c), (20, .slice z.A z.n z.c), (21, iv (z.n : Int)), (22, iv (k : Int))] a_ ∧ Sat w0 w_ ((SX.row (.slice z.A z.n z.c) 72 3 (encS3 (cur (renS g) b k))) :: (prg w0.heap.size o (rnL g l i)) :: Rs)) _ ⟨0, rfl, Nat.zero_le _, ha.keeps [1, 4, 12, 13, 5, 14, 15, 16, 17, 7, 18, 19, 8, 20, 21, 22] _ rfl, hS⟩ ?_
  rintro n_ a w ⟨k, rfl, hk, ha, hS⟩
  refine wp_seq (jX [0] (jY [(0, 23, .bool (decide ((k : Int) < (z.n : Int))))] ha fun a ha => ?_))
  refine jZ (jJ (wp_seq ?_))
  by_cases c6 : (k : Int) < (z.n : Int)
  ·
   have hkl : k < b.length := by omega
   obtain ⟨x, hx⟩ : ∃ x, b[k]? = some x := ⟨_, List.getElem?_eq_getElem hkl⟩;refine jH ha rfl (decide_eq_true c6) ?_;refine wp_skip (jJ (wp_seq (wp_block (wp_seq (jX [0, 1, 2, 3, 4, 5] (jY [(0, 24, iv (k : Int))] ha fun a ha => ?_))))));refine qX (.pointer (some ⟨bk z, k * 3, none⟩)) ha (xQ (s := z) (el := 72) (sz := 3) (j := k) ha (xK (t := 70) (x := 20) (y := 22) (d := 25)) rfl rfl (by kernel_rfl) (by kernel_rfl) (hS.rowA (s := z) 0 rfl (by have := (List.getElem?_eq_some_iff.1 (cur_get (g := renS g) hx)).1; rw [encS3_length]; omega)) (rfl) (by have h9 := hS.rowL (s := z) (enc := cT) 0 cT_len (by decide) rfl; have := (List.getElem?_eq_some_iff.1 (cur_get (g := renS g) hx)).1; omega)) fun a ha => ?_;refine qX (.agg #[iv x.f0, iv x.f1, iv x.f2]) ha (v_loadL ha (xW (t := 72) (x := 25) (d := 26) (ty := 72)) rfl (fun w' hw => by rw [hw]; exact run_loadVar_agg (vs := [iv x.f0, iv x.f1, iv x.f2]) (by kernel_rfl) (fun i u hu => by match i, hu with | 0, hu => rw [add0]; rw [← Option.some.inj hu]; exact ((hS.rdC (s := z) 0 rfl).cells _ _ ((flat_get (enc := cT) (o := 0) cT_len (cur_get (g := renS g) hx) (by decide)).trans rfl)) | 1, hu => rw [add0]; rw [← Option.some.inj hu]; exact ((hS.rdC (s := z) 0 rfl).cells _ _ ((flat_get (enc := cT) (o := 1) cT_len (cur_get (g := renS g) hx) (by decide)).trans rfl)) | 2, hu => rw [add0]; rw [← Option.some.inj hu]; exact ((hS.rdC (s := z) 0 rfl).cells _ _ ((flat_get (enc := cT) (o := 2) cT_len (cur_get (g := renS g) hx) (by decide)).trans rfl)) | n + 3, hu => simp at hu))) fun a ha => ?_;refine jV (qZ 10 [iv 0, iv 0, iv 0] 72 (ptr · 0) ha hS fun b7 w a hb8 hS ha => ?_);refine jY [(4, 9, iv (k : Int))] ha fun a ha => ?_;refine jV (o_sa 0 ha (yX (t := 72) (x := 10) (y := 26)) hS fun w a hS ha => ?_);refine jZ (jJ (wp_seq (jX [0, 1] (xZ 27 ha (hS.blk 0 rfl) fun a ha => ?_))));refine jV (qK 28 (vs := [.agg #[iv x.f0, iv x.f1, iv x.f2]]) ha (calls_sat (x := x) hS) fun v9 w a hp10 ha => ?_);obtain ⟨rfl, hS⟩ := hp10;refine jZ (jJ ?_)
   rcases Bool.eq_false_or_eq_true (callB x) with c11 | c11
   ·
    refine jH ha rfl c11 ?_;refine jX [0, 1, 2, 3, 4, 5, 6, 7, 8] (jY [(0, 29, .slice z.A z.n z.c), (1, 30, iv (k : Int)), (2, 31, (.func (.func F) #[] cap.toArray)), (3, 32, ptr b7 1)] ha fun a ha => ?_);refine qG (d := 33) (b := b7) (j := 1) ha (hS.blk 0 rfl) rfl fun a ha => ?_;have hct := hok b (List.mem_of_getElem? hb) x (List.mem_of_getElem? hx) (callB_yes c11);refine jV (o_retF (t := 31) (f := F) (cap := cap) ha (by decide) (xU (op := (Op.call { callee := (Callee.value (Operand.tmp 31)), args := #[(Operand.tmp 33)], argTypes := #[3] })) (d := some 34) (ty := 3)) rfl rfl hfn hbn (hcl _ [_, _, _] x.f1 hct hS) fun v12 w a hp13 ha => ?_);obtain ⟨rfl, hS⟩ := hp13;refine qX (.pointer (some ⟨bk z, k * 3, none⟩)) ha (xQ (s := z) (el := 72) (sz := 3) (j := k) ha (xK (t := 70) (x := 29) (y := 30) (d := 35)) rfl rfl (by kernel_rfl) (by kernel_rfl) (hS.rowA (s := z) 1 rfl (by have := (List.getElem?_eq_some_iff.1 (cur_get (g := renS g) hx)).1; rw [encS3_length]; omega)) (rfl) (by have h9 := hS.rowL (s := z) (enc := cT) 1 cT_len (by decide) rfl; have := (List.getElem?_eq_some_iff.1 (cur_get (g := renS g) hx)).1; omega)) fun a ha => ?_;refine jY [(7, 36, .pointer (some ⟨bk z, k * 3 + 1, none⟩))] ha fun a ha => ?_;refine jV (zQ (s := z) (j := k * 3 + 1) (xs := encS3 (cur (renS g) b k)) (xs' := encS3 ((cur (renS g) b k).set k ({ x with f1 := g x.f1 } : ST))) 1 ha (yX (t := 3) (x := 36) (y := 34)) rfl rfl rfl (by kernel_rfl) hS rfl (by have := (List.getElem?_eq_some_iff.1 (cur_get (g := renS g) hx)).1; rw [encS3_length]; omega) ((flat_set (enc := cT) (x' := ({ x with f1 := g x.f1 } : ST)) cT_len (cur_get (g := renS g) hx) (by decide) rfl)) (fun w a (hS : Sat w0 w ((SX.blk b7 [iv x.f0, iv x.f1, iv x.f2] 72) :: (SX.row (.slice z.A z.n z.c) 72 3 (encS3 ((cur (renS g) b k).set k ({ x with f1 := g x.f1 } : ST)))) :: (prg w0.heap.size o (rnL g l i)) :: Rs)) ha => ?_));refine jZ (in_n (jJ (jX [0, 1] (qH 37 ((k : Int) + 1) ha fun a ha => ?_))));refine jY [(1, 22, iv ((k : Int) + 1))] ha fun a ha => ?_;refine jZ (jJ ?_);replace hS := hS.pickN 3 [1, 2];replace hS : Sat w0 w ((SX.row (.slice z.A z.n z.c) 72 3 (encS3 (cur (renS g) b (k + 1)))) :: (prg w0.heap.size o (rnL g l i)) :: Rs) := by rw [← cur_set hx, renS_yes (callB_yes c11)]; exact hS
    exact ⟨_, by omega, k + 1, rfl, hkl, ha.keeps [1, 4, 12, 13, 5, 14, 15, 16, 17, 7, 18, 19, 8, 20, 21, 22] _ rfl, hS⟩
   refine jU ha rfl c11 ?_;refine wp_skip (in_n (jJ (jX [0, 1] (qH 37 ((k : Int) + 1) ha fun a ha => ?_))));refine jY [(1, 22, iv ((k : Int) + 1))] ha fun a ha => ?_;refine jZ (jJ ?_);replace hS := hS.pickN 3 [1, 2];replace hS : Sat w0 w ((SX.row (.slice z.A z.n z.c) 72 3 (encS3 (cur (renS g) b (k + 1)))) :: (prg w0.heap.size o (rnL g l i)) :: Rs) := by rw [← cur_same hx (renS_no (callB_no c11))]; exact hS
   exact ⟨_, by omega, k + 1, rfl, hkl, ha.keeps [1, 4, 12, 13, 5, 14, 15, 16, 17, 7, 18, 19, 8, 20, 21, 22] _ rfl, hS⟩
  refine jU ha rfl (decide_eq_false c6) ?_
  refine wp_exit (qJ (qJ (in_x (jJ ?_))))
  replace hS := hS.pickN 2 [1, 0]
  obtain ⟨vs, hvl, hS⟩ := prgOpen hS
  replace hS : Sat w0 w ((SX.row (.slice o.A o.n o.c) 70 1 (encSl vs)) :: (starD w0.heap.size (rnL g l i) vs 0) :: (SX.row (.slice z.A z.n z.c) 72 3 (encS3 (cur (renS g) b k))) :: Rs) := hS
  refine jX [0, 1, 2, 3, 4] (jY [(0, 38, .slice o.A o.n o.c), (1, 39, .slice z.A z.n z.c)] ha fun a ha => ?_)
  refine jV (qZ 40 [.slice z.A z.n z.c] 70 (fun b => .slice (some ⟨b, 0, none⟩) 1 1) ha hS fun b14 w a hb15 hS ha => ?_)
  refine jV (o_ap 41 1 0 (encSl (vs ++ [z])) ha hS rfl rfl (by rw [encSl_length]; have := rnL_len (g := g) hi; simp only [List.length_cons, List.length_nil]; omega) (encSl_snoc _ _) fun s19 w a hS hn20 ha => ?_)
  replace hS := hS.pickN 4 [1, 3, 2]
  obtain rfl : k = b.length := by omega
  rw [cur_end] at hS
  replace hS := prgSnoc hS
  replace hS : Sat w0 w ((prg w0.heap.size s19 (rnL g l i ++ [b.map (renS g)])) :: Rs) := hS
  refine jY [(4, 5, .slice s19.A s19.n s19.c)] ha fun a ha => ?_
  refine jZ (in_n (jJ (jX [0, 1] (qH 42 ((i : Int) + 1) ha fun a ha => ?_))))
  refine jY [(1, 14, iv ((i : Int) + 1))] ha fun a ha => ?_
  refine jZ (jJ ?_)
  replace hS : Sat w0 w ((prg w0.heap.size s19 (rnL g l i ++ [b.map (renS g)])) :: Rs) := hS
  replace hS : Sat w0 w ((prg w0.heap.size s19 (rnL g l (i + 1))) :: Rs) := by rw [rnL_next hb]; exact hS
  exact ⟨_, by omega, i + 1, s19, rfl, hil, ha.keeps [1, 4, 12, 13, 5, 14] _ rfl, hS⟩
 refine jU ha rfl (decide_eq_false c3) ?_
 refine wp_exit (qJ (qJ (in_x (jJ (wp_seq (jX [0, 1] (jY [(0, 43, .slice o.A o.n o.c), (1, 4, .slice o.A o.n o.c)] ha fun a ha => ?_)))))))
 refine jZ (jJ (wp_ret (qQ ha (by kernel_rfl) (qU (t := 4) ha rfl) ?_)))
 obtain rfl : i = l.length := by omega
 have hE : rnL g l l.length = l.map (List.map (renS g)) := by unfold rnL; rw [List.take_length]
 rw [hE] at hS
 exact ⟨o, rfl, hS.pickN 1 [0]⟩
theorem code74 : Try.f74.body = some (Code.seq (cr Try.f74 0 false) (Code.seq (cr Try.f74 1 false) Code.ret)) := by kernel_rfl
theorem keepC_sat {w0 w : World} {Rs : List Asn} {rl : Sl} {es : List Int} {x : Int} {b1 : Nat} (hS : Sat w0 w Rs) (hcl0 : w0.cell? ⟨b1, 0, none⟩ = some (.slice rl.A rl.n rl.c)) (hrl : RdI w0 rl es) :
  Calls Try.prog 74 #[.int .i64 x, .pointer (some ⟨b1, 0, none⟩)] w (Ret fun r w' => r = .int .i64 (idxI es x) ∧ Sat w0 w' Rs) := by
 refine enter (n := 7) Try.func74 code74 (by kernel_rfl) (Nat.le_of_ble_eq_true rfl) (fun a ha => ?_)
 replace ha : Has 7 [(0, iv x), (1, ptr b1 0)] a := ha
 refine wp_seq (jX [0] (jY [(0, 3, iv 0)] ha fun a ha => ?_))
 refine jZ (jJ (wp_seq (jX [0, 1, 2, 3] (qX (.slice rl.A rl.n rl.c) ha (qW ha (xW (t := 44) (x := 1) (d := 4) (ty := 44)) rfl (by kernel_rfl) (fun w' hw => by rw [hw]; exact pw_cell_below hS.below hcl0)) fun a ha => ?_))))
 refine jY [(1, 5, iv x)] ha fun a ha => ?_
 refine jV (qK 6 (vs := [.slice rl.A rl.n rl.c, iv x]) ha (bidx_sat hS (hrl.sat hS)) fun v1 w a hp2 ha => ?_)
 obtain ⟨rfl, hS⟩ := hp2
 refine jY [(3, 3, iv (idxI es x))] ha fun a ha => ?_
 refine jZ (jJ (wp_ret (qQ ha (by kernel_rfl) (qU (t := 3) ha rfl) ?_)))
 exact ⟨rfl, hS⟩
theorem l2Function_sat9 {w0 w : World} {Rs : List Asn} {s : Sl} {l : List (List ST)} {f : Int} (hS : Sat w0 w Rs) (hr : RdP w s l) (hf : Fits l) :
  Calls Try.prog 67 #[.agg #[.slice s.A s.n s.c], .int .i64 f] w (Ret fun r w' => r = .bool (decide (0 ≤ f) && decide (f ≤ (l.length : Int) - 1)) ∧ Sat w0 w' Rs) := by
 have := spec_l2Function.calls s.A s.c l f _ w hr.rd hr.le (l2Function_f l hf.len f)
 rw [← hr.len] at this
 refine this.mono ?_
 rintro e w' ⟨rfl, hb⟩
 exact ⟨by rw [hr.len], Sat.skip hS hb⟩
theorem code21 : Try.f21.body = some (Code.seq (cr Try.f21 0 false) (Code.seq (Code.seq (cr Try.f21 1 false) (Code.cond (Operand.tmp 14) (Code.seq (cr Try.f21 2 false) Code.ret) Code.skip)) (Code.seq (cr Try.f21 3 false) (Code.seq (Code.seq (cr Try.f21 4 false) (Code.block 0 (Code.loop (Code.seq (cr Try.f21 5 false) (Code.seq (Code.cond (Operand.tmp 23) Code.skip (Code.exit 0)) (Code.seq (Code.block 1 (Code.seq (cr Try.f21 6 false) (cr Try.f21 7 false))) (cr Try.f21 8 false))))))) (Code.seq (cr Try.f21 9 true) Code.ret))))) := by kernel_rfl
theorem impl_KeepReached_sat0 {w0 : World} {s0 : Sl} {l : List (List ST)} {f : Int} (hr : RdP w0 s0 l) (hf : Fits l) :
  Calls Try.prog 21 #[.agg #[.slice s0.A s0.n s0.c], iv f] w0 (Ret fun r w' => ∃ s : Sl, r = .tuple #[.agg #[s.v], .int .i64 (keepP l f).2.1, .bool (keepP l f).2.2] ∧ Sat w0 w' [prg w0.heap.size s (keepP l f).1]) := by
 have hS : Sat w0 w0 [] := Sat.start w0
 have hlen := hf.len
 have hsn := hr.len
 refine enter (n := 42) Try.func21 code21 (by kernel_rfl) (Nat.le_of_ble_eq_true rfl) (fun a ha => ?_)
 replace ha : Has 42 [(0, .agg #[.slice s0.A s0.n s0.c]), (1, iv f)] a := ha
 refine wp_seq (jX [0, 1, 2, 3] (jV (qZ 2 [.slice s0.A s0.n s0.c] 30 (ptr · 0) ha hS fun b1 w a hb2 hS ha => ?_)))
 refine jV (qZ 4 [.slice none 0 0] 30 (ptr · 0) ha hS fun b3 w a hb4 hS ha => ?_)
 refine jY [(2, 5, iv 0), (3, 6, .bool false)] ha fun a ha => ?_
 refine jZ (jJ (wp_seq (wp_seq (jX [0, 1, 2, 3] (xZ 11 ha (hS.blk 1 rfl) fun a ha => ?_)))))
 refine jY [(1, 12, iv f)] ha fun a ha => ?_
 refine jV (qK 13 (vs := [.agg #[.slice s0.A s0.n s0.c], iv f]) ha (isFunction_sat hS (hr.sat hS) hf) fun v5 w a hp6 ha => ?_)
 obtain ⟨rfl, hS⟩ := hp6
 refine jY [(3, 14, .bool (!(okF l f)))] ha fun a ha => ?_
 refine jZ (jJ ?_)
 rcases Bool.eq_false_or_eq_true (okF l f) with c7 | c7
 ·
  have hfx := okF_lt c7
  have hrk := reach_ok (okF_prog c7) hfx
  have hrl6 := hrk.len
  have hl6 : l.length ≤ 6 := by have h9 := okF_prog c7; simp only [programB, Bool.and_eq_true, decide_eq_true_eq] at h9; exact h9.1.2
  refine jU ha rfl (yY c7) ?_
  refine wp_skip (jJ (wp_seq (jX [0, 1, 2, 3, 4, 5, 6] (xZ 16 ha (hS.blk 1 rfl) fun a ha => ?_))))
  refine jY [(1, 17, iv f)] ha fun a ha => ?_
  refine jV (qK 18 (vs := [.agg #[.slice s0.A s0.n s0.c], iv f]) ha (reachI_sat hS hr hf (okF_prog c7) (okF_lt c7)) fun v8 w a hp9 ha => ?_)
  obtain ⟨rl, rfl, hS⟩ := hp9
  refine jV (qZ 19 [] 70 (fun b => .slice (some ⟨b, 0, none⟩) 0 0) ha hS fun b10 w a hb11 hS ha => ?_)
  refine jV (qZ 7 [.slice none 0 0] 44 (ptr · 0) ha hS fun b12 w a hb13 hS ha => ?_)
  refine jV (zK b12 0 (.slice rl.A rl.n rl.c) 0 ha hS rfl rfl fun w a hS ha => ?_)
  refine jY [(6, 8, .slice (some ⟨b10, 0, none⟩) 0 0)] ha fun a ha => ?_
  refine jZ (jJ (wp_seq (wp_seq (jX [0, 1, 2] (qG (d := 20) (b := b12) (j := 0) ha (hS.blk 0 rfl) rfl fun a ha => ?_)))))
  refine jY [(1, 21, iv (rl.n : Int)), (2, 22, iv 0)] ha fun a ha => ?_
  refine jZ (jJ (wp_block ?_))
  replace hS := hS.blk0 1 1 rfl
  replace hS := hS.pickN 5 [0, 3, 4, 2, 1]
  replace hS : Sat w0 w ((SX.blk b12 [.slice rl.A rl.n rl.c] 44) :: (SX.blk b3 [.slice none 0 0] 30) :: (SX.blk b1 [.slice s0.A s0.n s0.c] 30) :: (SX.row (.slice rl.A rl.n rl.c) 3 1 (encJ (reachP l f))) :: (SX.row (.slice ((⟨some ⟨b10, 0, none⟩, 0, 0⟩ : Sl).A) ((⟨some ⟨b10, 0, none⟩, 0, 0⟩ : Sl).n) ((⟨some ⟨b10, 0, none⟩, 0, 0⟩ : Sl).c)) 70 1 (encSl [])) :: []) := by rw [← encJ_I]; exact hS
  have hrn : rl.n = (reachP l f).length := hS.rowL (s := rl) (enc := cellsJ) 3 cellsJ_len (by decide) rfl
  refine wp_loop_ghost (fun n_ a_ w_ => ∃ (i : Nat) (o : Sl) (vs : List Sl), n_ = (reachP l f).length - i ∧ (i ≤ (reachP l f).length) ∧ (vs.length = i) ∧ (KeptI w0 l (reachP l f) vs i) ∧ Has 42 [(1, iv f), (2, ptr b1 0), (4, ptr b3 0), (5, iv 0), (6, .bool false), (7, ptr b12 0), (20, .slice rl.A rl.n rl.c), (21, iv (rl.n : Int)), (8, .slice o.A o.n o.c), (22, iv (i : Int))] a_ ∧ Sat w0 w_ ((SX.blk b12 [.slice rl.A rl.n rl.c] 44) :: (SX.blk b3 [.slice none 0 0] 30) :: (SX.blk b1 [.slice s0.A s0.n s0.c] 30) :: (SX.row (.slice rl.A rl.n rl.c) 3 1 (encJ (reachP l f))) :: (SX.row (.slice o.A o.n o.c) 70 1 (encSl vs)) :: [])) _ ⟨0, ⟨some ⟨b10, 0, none⟩, 0, 0⟩, [], rfl, Nat.zero_le _, rfl, (fun k b hk => absurd hk (Nat.not_lt_zero k)), ha.keeps [1, 2, 4, 5, 6, 7, 20, 21, 8, 22] _ rfl, hS⟩ ?_
  rintro n_ a w ⟨i, o, vs, rfl, hi, hvl, hvs, ha, hS⟩
  refine wp_seq (jX [0] (jY [(0, 23, .bool (decide ((i : Int) < (rl.n : Int))))] ha fun a ha => ?_))
  refine jZ (jJ (wp_seq ?_))
  by_cases c14 : (i : Int) < (rl.n : Int)
  ·
   have hil : i < (reachP l f).length := by omega
   obtain ⟨y, hy⟩ : ∃ y, (reachP l f)[i]? = some y := ⟨_, List.getElem?_eq_getElem hil⟩;have hyr := hrk.rg y (List.mem_of_getElem? hy);obtain ⟨b, hb⟩ : ∃ b, l[y.toNat]? = some b := ⟨_, List.getElem?_eq_getElem (by omega)⟩;have hb1 : b.length ≤ 1048576 := hf.each b (List.mem_of_getElem? hb);obtain ⟨hA0, A2, c2, hcb, hl2, hkd⟩ := rows_cells hr.rd y.toNat b hb;refine jH ha rfl (decide_eq_true c14) ?_;refine wp_skip (jJ (wp_seq (wp_block (wp_seq (jX [0, 1, 2] (qX (.pointer (some ⟨bk rl, i * 1, none⟩)) ha (xQ (s := rl) (el := 3) (sz := 1) (j := i) ha (xK (t := 44) (x := 20) (y := 22) (d := 24)) rfl rfl (by kernel_rfl) (by kernel_rfl) (hS.rowA (s := rl) 3 rfl (by have := (List.getElem?_eq_some_iff.1 hy).1; rw [encJ_length]; omega)) (rfl) (by have h9 := hS.rowL (s := rl) (enc := cellsJ) 3 cellsJ_len (by decide) rfl; have := (List.getElem?_eq_some_iff.1 hy).1; omega)) fun a ha => ?_))))));refine qX (iv y) ha (qW ha (xW (t := 3) (x := 24) (d := 25) (ty := 3)) rfl (by kernel_rfl) (fun w' hw => by rw [hw]; exact (hS.rdC (s := rl) 3 rfl).cells _ _ ((flat_get (enc := cellsJ) (o := 0) cellsJ_len hy (by decide)).trans rfl))) fun a ha => ?_;refine jY [(2, 10, iv y)] ha fun a ha => ?_;refine jZ (jJ (jX [0, 1, 2, 3, 4, 5, 6, 7, 8] (jY [(0, 26, .slice o.A o.n o.c), (1, 27, ptr b1 0)] ha fun a ha => ?_)));refine qG (d := 28) (b := b1) (j := 0) ha (hS.blk 2 rfl) rfl fun a ha => ?_;refine jY [(3, 29, iv y)] ha fun a ha => ?_;refine qX (.pointer (some ⟨bk s0, of_ s0 + y.toNat * 1, none⟩)) ha (xY (s := s0) (el := 70) (sz := 1) (j := y.toNat) ha (xK (t := 28) (x := 28) (y := 29) (d := 30)) rfl rfl (by kernel_rfl) (by kernel_rfl) hA0 (Int.toNat_of_nonneg hyr.1).symm (by rw [hr.len]; omega)) fun a ha => ?_;refine qX (.slice A2 b.length c2) ha (qW ha (xW (t := 70) (x := 30) (d := 31) (ty := 70)) rfl (by kernel_rfl) (fun w' hw => by rw [hw]; rw [Nat.mul_one]; exact pw_cell_below hS.below hcb)) fun a ha => ?_;refine jV (qZ 32 [.slice A2 b.length c2] 70 (fun b => .slice (some ⟨b, 0, none⟩) 1 1) ha hS fun b15 w a hb16 hS ha => ?_);refine jV (o_ap 33 5 0 (encSl (vs ++ [⟨A2, b.length, c2⟩])) ha hS rfl rfl (by rw [encSl_length]; have := hrk.len; simp only [List.length_cons, List.length_nil]; omega) (encSl_snoc vs ⟨A2, b.length, c2⟩) fun s20 w a hS hn21 ha => ?_);refine jY [(8, 8, .slice s20.A s20.n s20.c)] ha fun a ha => ?_;refine jZ (in_n (jJ (jX [0, 1] (qH 34 ((i : Int) + 1) ha fun a ha => ?_))));refine jY [(1, 22, iv ((i : Int) + 1))] ha fun a ha => ?_;refine jZ (jJ ?_);replace hS := hS.pickN 6 [1, 2, 3, 4, 5];exact ⟨_, by omega, i + 1, s20, vs ++ [(⟨A2, b.length, c2⟩ : Sl)], rfl, hil, (by rw [List.length_append, hvl]; rfl), kept_next hvl hvs hy hb hl2 hkd, ha.keeps [1, 2, 4, 5, 6, 7, 20, 21, 8, 22] _ rfl, hS⟩
  refine jU ha rfl (decide_eq_false c14) ?_
  refine wp_exit (qJ (qJ (in_x (jJ (wp_seq (xG 10 10 (hS.pickN 5 [0, 2]) hS fun w hS => ?_))))))
  refine qY (k := 8) [(0, 35, .slice o.A o.n o.c), (1, 36, .func (.func 74) #[] #[ptr b12 0])] ha (.inr (hS.pickN 5 [0, 2])) fun a ha => ?_
  refine yW 4 (d := 39) (b := b12) (j := 0) ha (hS.pickN 5 [0, 2]) (fun _ hw => hw.blk 0 rfl) rfl fun a ha => ?_
  refine qY (k := 6) [(5, 40, iv f)] ha (.inr (hS.pickN 5 [0, 2])) fun a ha => ?_
  have hie : i = (reachP l f).length := by omega
  have hcl := blkCell hS 0 rfl
  have hrlw : RdI w rl (reachP l f) := by have h9 := hS; rw [← encJ_I] at h9; exact h9.rdRow (s := rl) 3 rfl
  have hrp : RdP w o (keptL l (reachP l f)) := keptRd hS 4 rfl (by omega) (by rw [hie] at hvs; exact hvs)
  refine qV 2 (qK 37 (vs := [.slice o.A o.n o.c, .func (.func 74) #[] #[ptr b12 0]]) ha (liftSl hS (renG_sat (F := 74) (cap := [ptr b12 0]) (g := idxI (reachP l f)) (N9 := (l.length : Int)) (Sat.start _) hrp (kept_fits hf (okF_prog c7) hrk) (kept_calls (okF_prog c7) hrk) Try.func74 (by kernel_rfl) (fun w1 Xs x hx h1 => keepC_sat h1 hcl hrlw))) fun v22 w a hp23 ha => ?_)
  obtain ⟨o9, rfl, hS⟩ := hp23
  refine ⟨.inr (hS.pickN 6 [1, 3]), ?_⟩
  refine qY (k := 4) [(3, 38, .agg #[.slice o9.A o9.n o9.c])] ha (.inr (hS.pickN 6 [1, 3])) fun a ha => ?_
  refine qV 6 (qK 41 (vs := [.slice rl.A rl.n rl.c, iv f]) ha (bidx_sat (se := rl) (es := reachP l f) (x := f) hS (by have h9 := hS; rw [← encJ_I] at h9; exact h9.rdRow (s := rl) 4 rfl)) fun v24 w a hp25 ha => ?_)
  obtain ⟨rfl, hS⟩ := hp25
  refine ⟨.inr (hS.pickN 6 [1, 3]), ?_⟩
  refine qV 7 (o_sa 2 ha (yX (t := 30) (x := 4) (y := 38)) hS fun w a hS ha => ?_)
  refine ⟨.inr (hS.pickN 6 [1, 3]), ?_⟩
  refine qY (k := 0) [(8, 5, iv (idxI (reachP l f) f)), (9, 6, .bool true)] ha (.inr (hS.pickN 6 [1, 3])) fun a ha => ?_
  refine xH ?_
  replace ha := ha.as [(4, ptr b3 0), (5, iv (idxI (reachP l f) f)), (6, .bool true)] rfl
  refine jJ (wp_ret (yK ha (by kernel_rfl) (yH (t := 4) (ty := 30) (i := 2) ha rfl hS rfl (by kernel_rfl)) (qU (t := 5) ha rfl) (qU (t := 6) ha rfl) ?_))
  rw [keepP_yes c7]
  exact ⟨o9, rfl, hS.pickN 6 [0]⟩
 refine jH ha rfl (yU c7) ?_
 refine wp_seq (jX [0, 1, 2, 3] (jY [(0, 15, .agg #[.slice none 0 0])] ha fun a ha => ?_))
 refine jV (o_sa 0 ha (yX (t := 30) (x := 4) (y := 15)) hS fun w a hS ha => ?_)
 refine jY [(2, 5, iv 0), (3, 6, .bool false)] ha fun a ha => ?_
 refine jZ (jJ (wp_ret (xJ (yK ha (by kernel_rfl) (yH (t := 4) (ty := 30) (i := 0) ha rfl hS rfl (by kernel_rfl)) (qU (t := 5) ha rfl) (qU (t := 6) ha rfl) ?_))))
 rw [keepP_no c7]
 exact ⟨⟨none, 0, 0⟩, rfl, nilPrg (Sat.rest [_, _] hS)⟩
theorem impl_KeepReached_sat {w0 w : World} {Rs : List Asn} {s0 : Sl} {l : List (List ST)} {f : Int} (hS : Sat w0 w Rs) (hr : RdP w s0 l) (hf : Fits l) :
  Calls Try.prog 21 #[.agg #[.slice s0.A s0.n s0.c], iv f] w (Ret fun r w' => ∃ s : Sl, r = .tuple #[.agg #[s.v], .int .i64 (keepP l f).2.1, .bool (keepP l f).2.2] ∧ Sat w0 w' (prg w0.heap.size s (keepP l f).1 :: Rs)) := liftPI hS (impl_KeepReached_sat0 hr hf)
theorem code20 : Try.f20.body = some (Code.seq (cr Try.f20 0 false) (Code.seq (Code.seq (cr Try.f20 1 false) (Code.cond (Operand.tmp 19) (Code.seq (cr Try.f20 2 false) Code.ret) Code.skip)) (Code.seq (cr Try.f20 3 false) (Code.seq (Code.seq (cr Try.f20 4 false) (Code.block 0 (Code.loop (Code.seq (Code.seq (cr Try.f20 5 false) (Code.cond (Operand.tmp 29) Code.skip (Code.exit 0))) (Code.seq (Code.block 1 (Code.seq (cr Try.f20 7 false) (Code.cond (Operand.tmp 34) (Code.seq (cr Try.f20 8 false) (cr Try.f20 9 false)) (cr Try.f20 10 false)))) (cr Try.f20 6 false)))))) (Code.seq (cr Try.f20 11 true) Code.ret))))) := by kernel_rfl
theorem spec_KeepReached_sat0 {w0 : World} {s0 : Sl} {l : List (List ST)} {f : Int} (hr : RdP w0 s0 l) (hf : Fits l) :
  Calls Try.prog 20 #[.agg #[.slice s0.A s0.n s0.c], iv f] w0 (Ret fun r w' => ∃ s : Sl, r = .tuple #[.agg #[s.v], .int .i64 (keepP l f).2.1, .bool (keepP l f).2.2] ∧ Sat w0 w' [prg w0.heap.size s (keepP l f).1]) := by
 have hS : Sat w0 w0 [] := Sat.start w0
 have hlen := hf.len
 have hsn := hr.len
 refine enter (n := 51) Try.func20 code20 (by kernel_rfl) (Nat.le_of_ble_eq_true rfl) (fun a ha => ?_)
 replace ha : Has 51 [(0, .agg #[.slice s0.A s0.n s0.c]), (1, iv f)] a := ha
 refine wp_seq (jX [0, 1, 2, 3] (jV (qZ 2 [.slice s0.A s0.n s0.c] 30 (ptr · 0) ha hS fun b1 w a hb2 hS ha => ?_)))
 refine jV (qZ 4 [.slice none 0 0] 30 (ptr · 0) ha hS fun b3 w a hb4 hS ha => ?_)
 refine jY [(2, 5, iv 0), (3, 6, .bool false)] ha fun a ha => ?_
 refine jZ (jJ (wp_seq (wp_seq (jX [0, 1, 2, 3, 4, 5, 6, 7, 8] (xZ 11 ha (hS.blk 1 rfl) fun a ha => ?_)))))
 refine jV (qK 12 (vs := [.agg #[.slice s0.A s0.n s0.c]]) ha (l2Program_sat hS (hr.sat hS) hf) fun v5 w a hp6 ha => ?_)
 obtain ⟨rfl, hS⟩ := hp6
 refine jY [(2, 13, .bool (!(programB l))), (3, 14, .bool (!(programB l)))] ha fun a ha => ?_
 rcases Bool.eq_false_or_eq_true (programB l) with c7 | c7
 ·
  replace ha := ha.turn 12 (.bool true) rfl (congrArg Value.bool c7)
  replace ha := ha.turn 13 (.bool false) rfl (congrArg Value.bool (yY c7))
  replace ha := ha.turn 14 (.bool false) rfl (congrArg Value.bool (yY c7))
  refine xZ 15 ha (hS.blk 1 rfl) fun a ha => ?_
  refine jY [(5, 16, iv f)] ha fun a ha => ?_
  refine jV (qK 17 (vs := [.agg #[.slice s0.A s0.n s0.c], iv f]) ha (l2Function_sat9 hS (hr.sat hS) hf) fun v8 w a hp9 ha => ?_)
  obtain ⟨rfl, hS⟩ := hp9
  refine jY [(7, 18, .bool (!((decide (0 ≤ f) && decide (f ≤ (l.length : Int) - 1))))), (8, 19, .bool (!((decide (0 ≤ f) && decide (f ≤ (l.length : Int) - 1)))))] ha fun a ha => ?_
  refine jZ (jJ ?_)
  rcases Bool.eq_false_or_eq_true (decide (0 ≤ f) && decide (f ≤ (l.length : Int) - 1)) with c10 | c10
  ·
   have hokf : okF l f = true := by unfold okF; rw [c7, c10]; rfl
   have hfx := okF_lt hokf;have hrk := reach_ok (okF_prog hokf) hfx;have hrl6 := hrk.len;have hl6 : l.length ≤ 6 := by have h9 := okF_prog hokf; simp only [programB, Bool.and_eq_true, decide_eq_true_eq] at h9; exact h9.1.2
   refine jU ha rfl (yY c10) ?_;refine wp_skip (jJ (wp_seq (jX [0, 1, 2, 3, 4, 5, 6] (xZ 21 ha (hS.blk 1 rfl) fun a ha => ?_))));refine jY [(1, 22, iv f)] ha fun a ha => ?_;refine jV (qK 23 (vs := [.agg #[.slice s0.A s0.n s0.c], iv f]) ha (reachQ_sat hS hr hf (okF_prog hokf) (okF_lt hokf)) fun v11 w a hp12 ha => ?_);obtain ⟨rl, rfl, hS⟩ := hp12;refine jV (qZ 24 [] 3 (fun b => .slice (some ⟨b, 0, none⟩) 0 0) ha hS fun b13 w a hb14 hS ha => ?_);refine jY [(4, 7, .slice rl.A rl.n rl.c), (5, 8, .slice (some ⟨b13, 0, none⟩) 0 0), (6, 9, iv 0)] ha fun a ha => ?_;refine jZ (jJ (wp_seq (wp_seq (jX [0] (jY [(0, 10, iv 0)] ha fun a ha => ?_)))));refine jZ (jJ (wp_block ?_));replace hS := hS.blk0 1 0 rfl;replace hS := hS.pickN 4 [2, 3, 1, 0];replace hS : Sat w0 w ((SX.blk b3 [.slice none 0 0] 30) :: (SX.blk b1 [.slice s0.A s0.n s0.c] 30) :: (SX.row (.slice rl.A rl.n rl.c) 3 1 (SX.encI (reachP l f))) :: (SX.row (.slice ((⟨some ⟨b13, 0, none⟩, 0, 0⟩ : Sl).A) ((⟨some ⟨b13, 0, none⟩, 0, 0⟩ : Sl).n) ((⟨some ⟨b13, 0, none⟩, 0, 0⟩ : Sl).c)) 3 1 (SX.encI (toR 0 (reachP l f)))) :: []) := hS;refine wp_loop_ghost (fun n_ a_ w_ => ∃ (g : Nat) (so : Sl) (mn : Nat), n_ = l.length - g ∧ (g ≤ l.length) ∧ (mn = lows (reachP l f) (g : Int)) ∧ (mn ≤ g) ∧ Has 51 [(1, iv f), (2, ptr b1 0), (4, ptr b3 0), (5, iv 0), (6, .bool false), (7, .slice rl.A rl.n rl.c), (8, .slice so.A so.n so.c), (9, iv (mn : Int)), (10, iv (g : Int))] a_ ∧ Sat w0 w_ ((SX.blk b3 [.slice none 0 0] 30) :: (SX.blk b1 [.slice s0.A s0.n s0.c] 30) :: (SX.row (.slice rl.A rl.n rl.c) 3 1 (SX.encI (reachP l f))) :: (SX.row (.slice so.A so.n so.c) 3 1 (SX.encI (toR g (reachP l f)))) :: [])) _ ⟨0, ⟨some ⟨b13, 0, none⟩, 0, 0⟩, 0, rfl, Nat.zero_le _, (lows_zero hrk).symm, Nat.le_refl _, ha.keeps [1, 2, 4, 5, 6, 7, 8, 9, 10] _ rfl, hS⟩ ?_
   rintro n_ a w ⟨g, so, mn, rfl, hg, hmn, hml, ha, hS⟩
   refine wp_seq (wp_seq (jX [0, 1, 2, 3, 4] (jY [(0, 25, iv (g : Int)), (1, 26, ptr b1 0)] ha fun a ha => ?_)));refine qG (d := 27) (b := b1) (j := 0) ha (hS.blk 1 rfl) rfl fun a ha => ?_;refine jY [(3, 28, iv (s0.n : Int)), (4, 29, .bool (decide ((g : Int) < (s0.n : Int))))] ha fun a ha => ?_;refine jZ (jJ ?_)
   by_cases c15 : (g : Int) < (s0.n : Int)
   ·
    have hgl : g < l.length := by omega
    refine jH ha rfl (decide_eq_true c15) ?_;refine wp_skip (jJ (wp_seq (wp_block (wp_seq (jX [0, 1, 2] (jY [(0, 32, .slice rl.A rl.n rl.c), (1, 33, iv (g : Int))] ha fun a ha => ?_))))));refine jV (qK 34 (vs := [.slice rl.A rl.n rl.c, iv (g : Int)]) ha (bhas_sat hS (hS.rdRow (s := rl) 2 rfl)) fun v16 w a hp17 ha => ?_);obtain ⟨rfl, hS⟩ := hp17;refine jZ (jJ ?_)
    rcases Bool.eq_false_or_eq_true ((reachP l f).contains (g : Int)) with c18 | c18
    ·
     refine jH ha rfl c18 ?_;refine wp_seq (jX [0, 1, 2, 3, 4] (jY [(0, 35, .slice so.A so.n so.c), (1, 36, iv (mn : Int))] ha fun a ha => ?_));refine jV (qZ 37 [iv (mn : Int)] 3 (fun b => .slice (some ⟨b, 0, none⟩) 1 1) ha hS fun b19 w a hb20 hS ha => ?_);refine jV (o_ap 38 4 0 (SX.encI ((toR g (reachP l f)) ++ [(mn : Int)])) ha hS rfl rfl (by rw [encI_length, toR_len]; simp only [List.length_cons, List.length_nil]; omega) (encI_snoc _ _) fun s24 w a hS hn25 ha => ?_);refine jY [(4, 8, .slice s24.A s24.n s24.c)] ha fun a ha => ?_;refine jZ (jJ (jX [0, 1, 2] (jY [(0, 39, iv (mn : Int))] ha fun a ha => ?_)));refine qH 40 ((mn : Int) + 1) ha fun a ha => ?_;refine jY [(2, 9, iv ((mn : Int) + 1))] ha fun a ha => ?_;refine jZ (in_n (jJ (jX [0, 1, 2] (jY [(0, 30, iv (g : Int))] ha fun a ha => ?_))));refine qH 31 ((g : Int) + 1) ha fun a ha => ?_;refine jY [(2, 10, iv ((g : Int) + 1))] ha fun a ha => ?_;refine jZ (jJ ?_);replace hS := hS.pickN 5 [1, 2, 3, 4];replace hS : Sat w0 w ((SX.blk b3 [.slice none 0 0] 30) :: (SX.blk b1 [.slice s0.A s0.n s0.c] 30) :: (SX.row (.slice rl.A rl.n rl.c) 3 1 (SX.encI (reachP l f))) :: (SX.row (.slice s24.A s24.n s24.c) 3 1 (SX.encI (toR (g + 1) (reachP l f)))) :: []) := by rw [toR_yes (reach_inc l f) c18, ← hmn]; exact hS
     have hln := lows_next (g := (g : Int)) (reach_inc l f);rw [c18] at hln;exact ⟨_, by omega, g + 1, s24, mn + 1, rfl, hgl, (by rw [show ((g + 1 : Nat) : Int) = (g : Int) + 1 from rfl, hln, hmn]; rfl), by omega, ha.keeps [1, 2, 4, 5, 6, 7, 8, 9, 10] _ rfl, hS⟩
    refine jU ha rfl c18 ?_;refine jX [0, 1, 2, 3] (jY [(0, 41, .slice so.A so.n so.c)] ha fun a ha => ?_);refine jV (qZ 42 [iv (-1)] 3 (fun b => .slice (some ⟨b, 0, none⟩) 1 1) ha hS fun b26 w a hb27 hS ha => ?_);refine jV (o_ap 43 4 0 (SX.encI ((toR g (reachP l f)) ++ [(-1)])) ha hS rfl rfl (by rw [encI_length, toR_len]; simp only [List.length_cons, List.length_nil]; omega) (encI_snoc _ _) fun s31 w a hS hn32 ha => ?_);refine jY [(3, 8, .slice s31.A s31.n s31.c)] ha fun a ha => ?_;refine jZ (in_n (jJ (jX [0, 1, 2] (jY [(0, 30, iv (g : Int))] ha fun a ha => ?_))));refine qH 31 ((g : Int) + 1) ha fun a ha => ?_;refine jY [(2, 10, iv ((g : Int) + 1))] ha fun a ha => ?_;refine jZ (jJ ?_);replace hS := hS.pickN 5 [1, 2, 3, 4];replace hS : Sat w0 w ((SX.blk b3 [.slice none 0 0] 30) :: (SX.blk b1 [.slice s0.A s0.n s0.c] 30) :: (SX.row (.slice rl.A rl.n rl.c) 3 1 (SX.encI (reachP l f))) :: (SX.row (.slice s31.A s31.n s31.c) 3 1 (SX.encI (toR (g + 1) (reachP l f)))) :: []) := by rw [toR_no c18]; exact hS
    have hln := lows_next (g := (g : Int)) (reach_inc l f);rw [c18] at hln;exact ⟨_, by omega, g + 1, s31, mn, rfl, hgl, (by rw [show ((g + 1 : Nat) : Int) = (g : Int) + 1 from rfl, hln, hmn]; rfl), by omega, ha.keeps [1, 2, 4, 5, 6, 7, 8, 9, 10] _ rfl, hS⟩
   refine jU ha rfl (decide_eq_false c15) ?_;refine wp_exit (qJ (qJ (in_x (jJ (wp_seq ?_)))));obtain rfl : g = l.length := by omega
   replace hS := hS.pickN 4 [3, 0, 1, 2];replace hS : Sat w0 w ((SX.row (.slice so.A so.n so.c) 3 1 (encJ (toR l.length (reachP l f)))) :: (SX.blk b3 [.slice none 0 0] 30) :: (SX.blk b1 [.slice s0.A s0.n s0.c] 30) :: (SX.row (.slice rl.A rl.n rl.c) 3 1 (SX.encI (reachP l f))) :: []) := by rw [← encJ_I]; exact hS
   have hxf : (toR l.length (reachP l f))[f.toNat]? = some (idxI (reachP l f) f) := by rw [toR_get (by omega), Int.toNat_of_nonneg hfx.1]
   have hsn9 : so.n = l.length := by have h9 := hS.rowL (s := so) (enc := cellsJ) 0 cellsJ_len (by decide) rfl; rw [toR_len] at h9; exact h9
   refine xG 10 10 (hS.pickN 4 [0, 2]) hS fun w hS => ?_;refine zZ 0 44 ha (hS.pickN 4 [0, 2]) (fun _ hw => hw.blk 1 rfl) fun a ha => ?_;refine qY (k := 6) [(1, 45, .slice so.A so.n so.c), (3, 47, .slice so.A so.n so.c), (4, 48, iv f)] ha (.inr (hS.pickN 4 [0, 2])) fun a ha => ?_;refine yJ 5 (.pointer (some ⟨bk so, f.toNat * 1, none⟩)) ha (xQ (s := so) (el := 3) (sz := 1) (j := f.toNat) ha (xK (t := 44) (x := 47) (y := 48) (d := 49)) rfl rfl (by kernel_rfl) (by kernel_rfl) (hS.rowA (s := so) 0 rfl (by have := (List.getElem?_eq_some_iff.1 hxf).1; rw [encJ_length]; omega)) ((Int.toNat_of_nonneg hfx.1).symm) (by have h9 := hS.rowL (s := so) (enc := cellsJ) 0 cellsJ_len (by decide) rfl; have := (List.getElem?_eq_some_iff.1 hxf).1; omega)) (.inr (hS.pickN 4 [0, 2])) fun a ha => ?_;refine yG 6 (iv (idxI (reachP l f) f)) ha (qW ha (xW (t := 3) (x := 49) (d := 50) (ty := 3)) rfl (by kernel_rfl) (fun w' hw => ((hw.rdC (s := so) 0 rfl)).cells _ _ ((flat_get (enc := cellsJ) (o := 0) cellsJ_len hxf (by decide)).trans rfl))) (hS.pickN 4 [0, 2]) fun a ha => ?_;refine qV 2 (qK 46 (vs := [.agg #[.slice s0.A s0.n s0.c], .slice so.A so.n so.c]) ha (liftPn hS (numQ_sat0 (hr.sat hS) hf (okF_prog hokf) (by have h9 := hS; rw [← encJ_I] at h9; exact h9.rdRow (s := so) 0 rfl) (toR_len _ _) (fun x hx => by have h9 := toR_rng x hx; omega))) fun v33 w a hp34 ha => ?_);obtain ⟨s1, rfl, hS⟩ := hp34;refine ⟨.inr (hS.pickN 5 [1, 3]), ?_⟩;refine qV 7 (o_sa 2 ha (yX (t := 30) (x := 4) (y := 46)) hS fun w a hS ha => ?_);refine ⟨.inr (hS.pickN 5 [1, 3]), ?_⟩;refine qY (k := 0) [(8, 5, iv (idxI (reachP l f) f)), (9, 6, .bool true)] ha (.inr (hS.pickN 5 [1, 3])) fun a ha => ?_;refine xH ?_;replace ha := ha.as [(4, ptr b3 0), (5, iv (idxI (reachP l f) f)), (6, .bool true)] rfl;refine jJ (wp_ret (yK ha (by kernel_rfl) (yH (t := 4) (ty := 30) (i := 2) ha rfl hS rfl (by kernel_rfl)) (qU (t := 5) ha rfl) (qU (t := 6) ha rfl) ?_));rw [keepP_yes hokf, ← keep_eq (okF_prog hokf) hrk];exact ⟨s1, rfl, hS.pickN 5 [0]⟩
  refine jH ha rfl (yU c10) ?_
  refine wp_seq (jX [0, 1, 2, 3] (jY [(0, 20, .agg #[.slice none 0 0])] ha fun a ha => ?_))
  refine jV (o_sa 0 ha (yX (t := 30) (x := 4) (y := 20)) hS fun w a hS ha => ?_)
  refine jY [(2, 5, iv 0), (3, 6, .bool false)] ha fun a ha => ?_
  refine jZ (jJ (wp_ret (xJ (yK ha (by kernel_rfl) (yH (t := 4) (ty := 30) (i := 0) ha rfl hS rfl (by kernel_rfl)) (qU (t := 5) ha rfl) (qU (t := 6) ha rfl) ?_))))
  have hokf : okF l f = false := by unfold okF; rw [c7, c10]; rfl
  rw [keepP_no hokf]
  exact ⟨⟨none, 0, 0⟩, rfl, nilPrg (Sat.rest [_, _] hS)⟩
 replace ha := ha.turn 12 (.bool false) rfl (congrArg Value.bool c7)
 replace ha := ha.turn 13 (.bool true) rfl (congrArg Value.bool (yU c7))
 replace ha := ha.turn 14 (.bool true) rfl (congrArg Value.bool (yU c7))
 refine jY [(4, 15, undef), (5, 16, undef), (6, 17, undef), (7, 18, undef), (8, 19, .bool true)] ha fun a ha => ?_
 refine jZ (jJ ?_)
 refine jH ha rfl rfl ?_
 refine wp_seq (jX [0, 1, 2, 3] (jY [(0, 20, .agg #[.slice none 0 0])] ha fun a ha => ?_))
 refine jV (o_sa 0 ha (yX (t := 30) (x := 4) (y := 20)) hS fun w a hS ha => ?_)
 refine jY [(2, 5, iv 0), (3, 6, .bool false)] ha fun a ha => ?_
 refine jZ (jJ (wp_ret (xJ (yK ha (by kernel_rfl) (yH (t := 4) (ty := 30) (i := 0) ha rfl hS rfl (by kernel_rfl)) (qU (t := 5) ha rfl) (qU (t := 6) ha rfl) ?_))))
 have hokf : okF l f = false := by unfold okF; rw [c7]; rw [Bool.false_and]
 rw [keepP_no hokf]
 exact ⟨⟨none, 0, 0⟩, rfl, nilPrg (Sat.rest [_, _] hS)⟩
theorem spec_KeepReached_sat {w0 w : World} {Rs : List Asn} {s0 : Sl} {l : List (List ST)} {f : Int} (hS : Sat w0 w Rs) (hr : RdP w s0 l) (hf : Fits l) :
  Calls Try.prog 20 #[.agg #[.slice s0.A s0.n s0.c], iv f] w (Ret fun r w' => ∃ s : Sl, r = .tuple #[.agg #[s.v], .int .i64 (keepP l f).2.1, .bool (keepP l f).2.2] ∧ Sat w0 w' (prg w0.heap.size s (keepP l f).1 :: Rs)) := liftPI hS (spec_KeepReached_sat0 hr hf)
theorem code4 : Try.f4.body = some (Code.seq (cr Try.f4 0 false) (Code.seq (cr Try.f4 1 false) (Code.seq (cr Try.f4 2 false) (Code.seq (Code.seq (cr Try.f4 3 false) (Code.cond (Operand.tmp 23) (Code.seq (cr Try.f4 4 false) Code.ret) Code.skip)) (Code.seq (cr Try.f4 5 false) (Code.seq (cr Try.f4 6 false) (Code.seq (cr Try.f4 7 false) (Code.seq (Code.seq (cr Try.f4 8 false) (Code.cond (Operand.tmp 54) (Code.seq (cr Try.f4 9 false) Code.ret) Code.skip)) (Code.seq (Code.seq (cr Try.f4 10 true) (Code.cond (Operand.tmp 59) (Code.seq (cr Try.f4 11 false) Code.ret) Code.skip)) (Code.seq (cr Try.f4 12 false) (Code.seq (cr Try.f4 13 false) (Code.seq (Code.seq (cr Try.f4 14 false) (Code.cond (Operand.tmp 80) (Code.seq (cr Try.f4 15 false) Code.ret) Code.skip)) (Code.seq (cr Try.f4 16 false) (Code.seq (cr Try.f4 17 false) (Code.seq (cr Try.f4 18 false) (Code.seq (cr Try.f4 19 false) (Code.seq (Code.seq (cr Try.f4 20 false) (Code.cond (Operand.tmp 88) (Code.seq (cr Try.f4 21 false) Code.ret) Code.skip)) (Code.seq (Code.seq (cr Try.f4 22 false) (Code.cond (Operand.tmp 91) (Code.seq (cr Try.f4 23 false) Code.ret) Code.skip)) (Code.seq (cr Try.f4 24 false) (Code.seq (Code.seq (cr Try.f4 25 false) (Code.cond (Operand.tmp 113) (Code.seq (cr Try.f4 26 false) Code.ret) Code.skip)) (Code.seq (cr Try.f4 27 false) (Code.seq (cr Try.f4 28 false) (Code.seq (Code.seq (cr Try.f4 29 false) (Code.cond (Operand.tmp 118) (Code.seq (cr Try.f4 30 false) Code.ret) Code.skip)) (Code.seq (Code.seq (cr Try.f4 31 false) (Code.cond (Operand.tmp 121) (Code.seq (cr Try.f4 32 false) Code.ret) Code.skip)) (Code.seq (cr Try.f4 33 false) Code.ret))))))))))))))))))))))))) := by kernel_rfl
theorem law4_walk (w0 : World) (s0 : Sl) (l0 : List (List LT)) (f : Int) (hr0 : RdA w0 s0 l0) :
  Calls Try.prog 4 #[.agg #[.slice s0.A s0.n s0.c], iv f] w0 (Ret fun r w' => r = .bool true ∧ Below w0.heap.size w0 w') := by
 have hS : Sat w0 w0 [] := Sat.start w0
 refine enter (n := 122) Try.func4 code4 (by kernel_rfl) (Nat.le_of_ble_eq_true rfl) (fun a ha => ?_)
 replace ha : Has 122 [(0, .agg #[.slice s0.A s0.n s0.c]), (1, iv f)] a := ha
 refine wp_seq (jX [0, 1] (jV (qZ 2 [.slice s0.A s0.n s0.c] 24 (ptr · 0) ha hS fun b1 w a hb2 hS ha => ?_)))
 refine jY [(1, 4, .bool false)] ha fun a ha => ?_
 refine jZ (jJ (wp_seq (jX [0] (jY [(0, 5, iv 1048576)] ha fun a ha => ?_))))
 refine jZ (jJ (wp_seq (jX [0, 1, 2, 3] (xZ 19 ha (hS.blk 0 rfl) fun a ha => ?_))))
 refine jY [(1, 20, iv 1048576)] ha fun a ha => ?_
 refine jV (qK 21 (vs := [.agg #[.slice s0.A s0.n s0.c], iv 1048576]) ha (szProgram_sat hS (hr0.sat hS) (by omega) (by omega)) fun v3 w a hp4 ha => ?_)
 obtain ⟨rfl, hS⟩ := hp4
 refine jY [(3, 5, iv (szP l0 1048576))] ha fun a ha => ?_
 refine jZ (jJ (wp_seq (wp_seq (jX [0, 1] (jY [(0, 22, iv (szP l0 1048576)), (1, 23, .bool (decide ((szP l0 1048576) < 0)))] ha fun a ha => ?_)))))
 refine jZ (jJ ?_)
 by_cases c5 : (szP l0 1048576) < 0
 ·
  refine jH ha rfl (decide_eq_true c5) ?_
  refine wp_seq (jX [0] (jY [(0, 4, .bool true)] ha fun a ha => ?_))
  refine jZ (jJ (wp_ret (xJ (qQ ha (by kernel_rfl) (qU (t := 4) ha rfl) ?_))))
  exact ⟨rfl, hS.below⟩
 have hf0 : Fits l0 := by have h8 : 0 ≤ szP l0 1048576 := (by omega); have h9 := szP_ok l0 1048576 h8; exact ⟨by omega, by omega⟩
 have htp0 := (toP_fits hf0).tot
 have hz0 := szP_ok l0 1048576 (by omega)
 have hfr : Fits (keepP (toP l0) f).1 := keepP_fits (toP_fits hf0) f
 refine jU ha rfl (decide_eq_false c5) ?_
 refine wp_skip (jJ (wp_seq (jX [0, 1, 2, 3, 4, 5, 6, 7, 8, 9, 10, 11] (xZ 25 ha (hS.blk 0 rfl) fun a ha => ?_))))
 refine jV (qK 26 (vs := [.agg #[.slice s0.A s0.n s0.c]]) ha (toProgram_sat hS (hr0.sat hS) hf0) fun v6 w a hp7 ha => ?_)
 obtain ⟨sp1, rfl, hS⟩ := hp7
 refine jY [(2, 27, iv f)] ha fun a ha => ?_
 refine jV (qK 28 (vs := [.agg #[.slice sp1.A sp1.n sp1.c], iv f]) ha (spec_KeepReached_sat hS (hS.rdS 0 rfl) (toP_fits hf0)) fun v8 w a hp9 ha => ?_)
 obtain ⟨sp2, rfl, hS⟩ := hp9
 refine jY [(4, 24, .tuple #[.agg #[.slice sp2.A sp2.n sp2.c], iv ((keepP (toP l0) f).2.1), .bool ((keepP (toP l0) f).2.2)]), (5, 29, .agg #[.slice sp2.A sp2.n sp2.c]), (6, 30, iv ((keepP (toP l0) f).2.1)), (7, 31, .bool ((keepP (toP l0) f).2.2))] ha fun a ha => ?_
 refine jV (qZ 6 [.slice none 0 0] 30 (ptr · 0) ha hS fun b10 w a hb11 hS ha => ?_)
 refine jV (o_sa 0 ha (yX (t := 30) (x := 6) (y := 29)) hS fun w a hS ha => ?_)
 refine jY [(10, 7, iv ((keepP (toP l0) f).2.1)), (11, 8, .bool ((keepP (toP l0) f).2.2))] ha fun a ha => ?_
 refine jZ (jJ (wp_seq (jX [0, 1, 2, 3] (xZ 32 ha (hS.blk 3 rfl) fun a ha => ?_))))
 refine jV (qK 33 (vs := [.agg #[.slice s0.A s0.n s0.c]]) ha (toProgram_sat hS (hr0.sat hS) hf0) fun v12 w a hp13 ha => ?_)
 obtain ⟨sp3, rfl, hS⟩ := hp13
 refine jV (qZ 9 [.slice none 0 0] 30 (ptr · 0) ha hS fun b14 w a hb15 hS ha => ?_)
 refine jV (o_sa 0 ha (yX (t := 30) (x := 9) (y := 33)) hS fun w a hS ha => ?_)
 refine jZ (jJ (wp_seq (jX [0, 1, 2, 3, 4, 5, 6, 7, 8, 9, 10] (xZ 35 ha (hS.blk 0 rfl) fun a ha => ?_))))
 refine jY [(1, 36, iv f)] ha fun a ha => ?_
 refine jV (qK 37 (vs := [.agg #[.slice sp3.A sp3.n sp3.c], iv f]) ha (impl_KeepReached_sat hS (hS.rdS 1 rfl) (toP_fits hf0)) fun v16 w a hp17 ha => ?_)
 obtain ⟨sp4, rfl, hS⟩ := hp17
 refine jY [(3, 34, .tuple #[.agg #[.slice sp4.A sp4.n sp4.c], iv ((keepP (toP l0) f).2.1), .bool ((keepP (toP l0) f).2.2)]), (4, 38, .agg #[.slice sp4.A sp4.n sp4.c]), (5, 39, iv ((keepP (toP l0) f).2.1)), (6, 40, .bool ((keepP (toP l0) f).2.2))] ha fun a ha => ?_
 refine jV (qZ 10 [.slice none 0 0] 30 (ptr · 0) ha hS fun b18 w a hb19 hS ha => ?_)
 refine jV (o_sa 0 ha (yX (t := 30) (x := 10) (y := 38)) hS fun w a hS ha => ?_)
 refine jY [(9, 11, iv ((keepP (toP l0) f).2.1)), (10, 12, .bool ((keepP (toP l0) f).2.2))] ha fun a ha => ?_
 refine jZ ?_
 replace ha := ha.as [(1, iv f), (2, ptr b1 0), (4, .bool false), (6, ptr b10 0), (7, iv ((keepP (toP l0) f).2.1)), (8, .bool ((keepP (toP l0) f).2.2)), (9, ptr b14 0), (10, ptr b18 0), (11, iv ((keepP (toP l0) f).2.1)), (12, .bool ((keepP (toP l0) f).2.2))] rfl
 refine jJ (wp_seq (wp_seq (jX [0, 1, 2, 3, 4, 5, 6, 7, 8, 9, 10, 11, 12, 13] (xZ 41 ha (hS.blk 0 rfl) fun a ha => ?_))))
 refine xZ 42 ha (hS.blk 4 rfl) fun a ha => ?_
 refine jV (qK 43 (vs := [.agg #[.slice sp4.A sp4.n sp4.c], .agg #[.slice sp2.A sp2.n sp2.c]]) ha (eqP_sat hS (hS.rdS 1 rfl) (hS.rdS 5 rfl) hfr) fun v20 w a hp21 ha => ?_)
 obtain ⟨rfl, hS⟩ := hp21
 refine jY [(3, 44, .bool false), (4, 45, .bool false), (5, 46, iv ((keepP (toP l0) f).2.1)), (6, 47, iv ((keepP (toP l0) f).2.1))] ha fun a ha => ?_
 refine qX (.bool false) ha ((jW (v := .bool (!(decide ((keepP (toP l0) f).2.1 = (keepP (toP l0) f).2.1)))) ha (AtG.here (gd := 45) ⟨(by kernel_rfl : ((jK Try.f4 8)[7]?).map spec = some ((Op.binOp BinOp.neq 3 (Operand.tmp 46) (Operand.tmp 47) 3), some 48, 4, some (4, false))), by kernel_rfl⟩ ha rfl) (by kernel_rfl) (fun _ => by kernel_rfl)).as (by simp)) fun a ha => ?_
 refine jY [(8, 49, .bool false), (9, 50, .bool false), (10, 51, .bool ((keepP (toP l0) f).2.2)), (11, 52, .bool ((keepP (toP l0) f).2.2))] ha fun a ha => ?_
 refine qX (.bool false) ha ((jW (v := .bool (!(((keepP (toP l0) f).2.2) == ((keepP (toP l0) f).2.2)))) ha (AtG.here (gd := 50) ⟨(by kernel_rfl : ((jK Try.f4 8)[12]?).map spec = some ((Op.binOp BinOp.neq 4 (Operand.tmp 51) (Operand.tmp 52) 4), some 53, 4, some (9, false))), by kernel_rfl⟩ ha rfl) (by kernel_rfl) (fun _ => by kernel_rfl)).as (by simp)) fun a ha => ?_
 refine jY [(13, 54, .bool false)] ha fun a ha => ?_
 refine jZ (jJ ?_)
 refine jU ha rfl rfl ?_
 refine wp_skip (jJ (wp_seq (wp_seq (xG 5 5 (hS.pickN 8 [0, 2, 4, 7]) hS fun w hS => ?_))))
 refine zZ 0 55 ha (hS.pickN 8 [0, 2, 4, 7]) (fun _ hw => hw.blk 1 rfl) fun a ha => ?_
 refine zZ 1 56 ha (hS.pickN 8 [0, 2, 4, 7]) (fun _ hw => hw.blk 3 rfl) fun a ha => ?_
 refine qV 2 (qK 57 (vs := [.agg #[.slice s0.A s0.n s0.c]]) ha (toProgram_sat hS (hr0.sat hS) hf0) fun v22 w a hp23 ha => ?_)
 obtain ⟨sp5, rfl, hS⟩ := hp23
 refine ⟨.inr (hS.pickN 9 [1, 3, 5, 8]), ?_⟩
 refine qV 3 (qK 58 (vs := [.agg #[.slice sp3.A sp3.n sp3.c], .agg #[.slice sp5.A sp5.n sp5.c]]) ha (eqP_sat hS (hS.rdS 4 rfl) (hS.rdS 0 rfl) (toP_fits hf0)) fun v24 w a hp25 ha => ?_)
 obtain ⟨rfl, hS⟩ := hp25
 refine ⟨.inr (hS.pickN 9 [1, 3, 5, 8]), ?_⟩
 refine qY (k := 0) [(4, 59, .bool false)] ha (.inr (hS.pickN 9 [1, 3, 5, 8])) fun a ha => ?_
 refine xH (jJ ?_)
 refine jU ha rfl rfl ?_
 refine wp_skip (jJ (wp_seq (jX [0] (jY [(0, 13, iv 1)] ha fun a ha => ?_))))
 refine jZ ?_
 replace ha := ha.as [(1, iv f), (2, ptr b1 0), (4, .bool false), (6, ptr b10 0), (7, iv ((keepP (toP l0) f).2.1)), (8, .bool ((keepP (toP l0) f).2.2)), (9, ptr b14 0), (10, ptr b18 0), (11, iv ((keepP (toP l0) f).2.1)), (12, .bool ((keepP (toP l0) f).2.2)), (13, iv 1)] rfl
 refine jJ (wp_seq (jX [0, 1, 2, 3] (xZ 60 ha (hS.blk 3 rfl) fun a ha => ?_)))
 refine jY [(1, 61, iv 1)] ha fun a ha => ?_
 replace hS := hS.pickN 9 [4, 0, 1, 2, 3, 5, 6, 7, 8]
 refine jV (qK 62 (vs := [.agg #[.slice sp3.A sp3.n sp3.c], iv 1]) ha (markProgram_sat hS (toP_fits hf0) (by omega) (by omega)) fun v26 w a hp27 ha => ?_)
 obtain ⟨rfl, hS⟩ := hp27
 refine jY [(3, 13, iv (1 + 3 * (tot (toP l0) : Int)))] ha fun a ha => ?_
 refine jZ (jJ (wp_seq (wp_seq (jX [0, 1, 2, 3, 4, 5, 6, 7, 8, 9, 10, 11, 12, 13, 14, 15, 16, 17] (jY [(0, 63, iv (1 + 3 * (tot (toP l0) : Int)))] ha fun a ha => ?_)))))
 refine qX (.bool false) ha ((jW (v := .bool (decide (1 + 3 * (tot (toP l0) : Int) < 0))) ha (xU (op := (Op.binOp BinOp.lss 3 (Operand.tmp 63) (Operand.const (Value.int IntKind.i64 0)) 3)) (d := some 64) (ty := 4)) (by kernel_rfl) (fun _ => by kernel_rfl)).as (by rw [decide_eq_false (by omega)])) fun a ha => ?_
 refine jY [(2, 65, .bool false)] ha fun a ha => ?_
 refine xZ 66 ha (hS.blk 2 rfl) fun a ha => ?_
 refine xZ 67 ha (hS.blk 5 rfl) fun a ha => ?_
 refine jV (qK 68 (vs := [.agg #[.slice sp4.A sp4.n sp4.c], .agg #[.slice sp2.A sp2.n sp2.c]]) ha (eqP_sat hS (hS.rdS 3 rfl) (hS.rdS 6 rfl) hfr) fun v28 w a hp29 ha => ?_)
 obtain ⟨rfl, hS⟩ := hp29
 refine jY [(6, 69, .bool false), (7, 70, .bool false), (8, 71, .bool false), (9, 72, iv ((keepP (toP l0) f).2.1)), (10, 73, iv ((keepP (toP l0) f).2.1))] ha fun a ha => ?_
 refine qX (.bool false) ha ((jW (v := .bool (!(decide ((keepP (toP l0) f).2.1 = (keepP (toP l0) f).2.1)))) ha (AtG.here (gd := 71) ⟨(by kernel_rfl : ((jK Try.f4 14)[11]?).map spec = some ((Op.binOp BinOp.neq 3 (Operand.tmp 72) (Operand.tmp 73) 3), some 74, 4, some (8, false))), by kernel_rfl⟩ ha rfl) (by kernel_rfl) (fun _ => by kernel_rfl)).as (by simp)) fun a ha => ?_
 refine jY [(12, 75, .bool false), (13, 76, .bool false), (14, 77, .bool ((keepP (toP l0) f).2.2)), (15, 78, .bool ((keepP (toP l0) f).2.2))] ha fun a ha => ?_
 refine qX (.bool false) ha ((jW (v := .bool (!(((keepP (toP l0) f).2.2) == ((keepP (toP l0) f).2.2)))) ha (AtG.here (gd := 76) ⟨(by kernel_rfl : ((jK Try.f4 14)[16]?).map spec = some ((Op.binOp BinOp.neq 4 (Operand.tmp 77) (Operand.tmp 78) 4), some 79, 4, some (13, false))), by kernel_rfl⟩ ha rfl) (by kernel_rfl) (fun _ => by kernel_rfl)).as (by simp)) fun a ha => ?_
 refine jY [(17, 80, .bool false)] ha fun a ha => ?_
 refine jZ ?_
 replace ha := ha.as [(1, iv f), (2, ptr b1 0), (4, .bool false), (6, ptr b10 0), (7, iv ((keepP (toP l0) f).2.1)), (8, .bool ((keepP (toP l0) f).2.2)), (10, ptr b18 0), (80, .bool false)] rfl
 refine jJ ?_
 refine jU ha rfl rfl ?_
 refine wp_skip (jJ (wp_seq (jX [0] (jY [(0, 14, iv 1)] ha fun a ha => ?_))))
 refine jZ (jJ (wp_seq (jX [0, 1, 2, 3] (xZ 81 ha (hS.blk 2 rfl) fun a ha => ?_))))
 refine jY [(1, 82, iv 1)] ha fun a ha => ?_
 replace hS := hS.pickN 9 [3, 0, 1, 2, 4, 5, 6, 7, 8]
 refine jV (qK 83 (vs := [.agg #[.slice sp4.A sp4.n sp4.c], iv 1]) ha (markProgram_sat hS hfr (by omega) (by omega)) fun v30 w a hp31 ha => ?_)
 obtain ⟨rfl, hS⟩ := hp31
 refine jY [(3, 14, iv (1 + 3 * (tot ((keepP (toP l0) f).1) : Int)))] ha fun a ha => ?_
 refine jZ (jJ (wp_seq (jX [0] (jY [(0, 15, iv 1)] ha fun a ha => ?_))))
 refine jZ (jJ (wp_seq (jX [0, 1, 2, 3] (xZ 84 ha (hS.blk 3 rfl) fun a ha => ?_))))
 refine jY [(1, 85, iv 1)] ha fun a ha => ?_
 refine jV (qK 86 (vs := [.agg #[.slice sp4.A sp4.n sp4.c], iv 1]) ha (heldProgram_sat hS (hS.rdS 0 rfl) hfr) fun v32 w a hp33 ha => ?_)
 obtain ⟨rfl, hS⟩ := hp33
 refine jY [(3, 15, iv (1 + 3 * (tot ((keepP (toP l0) f).1) : Int)))] ha fun a ha => ?_
 refine jZ (jJ (wp_seq (wp_seq (jX [0, 1] (jY [(0, 87, iv (1 + 3 * (tot ((keepP (toP l0) f).1) : Int)))] ha fun a ha => ?_)))))
 refine qX (.bool false) ha ((jW (v := .bool (decide (1 + 3 * (tot ((keepP (toP l0) f).1) : Int) < 0))) ha (xU (op := (Op.binOp BinOp.lss 3 (Operand.tmp 87) (Operand.const (Value.int IntKind.i64 0)) 3)) (d := some 88) (ty := 4)) (by kernel_rfl) (fun _ => by kernel_rfl)).as (by rw [decide_eq_false (by omega)])) fun a ha => ?_
 refine jZ (jJ ?_)
 refine jU ha rfl rfl ?_
 refine wp_skip (jJ (wp_seq (wp_seq (jX [0, 1, 2] (jY [(0, 89, iv (1 + 3 * (tot ((keepP (toP l0) f).1) : Int))), (1, 90, iv (1 + 3 * (tot ((keepP (toP l0) f).1) : Int)))] ha fun a ha => ?_)))))
 refine qX (.bool false) ha ((jW (v := .bool (!(decide (1 + 3 * (tot ((keepP (toP l0) f).1) : Int) = 1 + 3 * (tot ((keepP (toP l0) f).1) : Int))))) ha (xU (op := (Op.binOp BinOp.neq 3 (Operand.tmp 89) (Operand.tmp 90) 3)) (d := some 91) (ty := 4)) (by kernel_rfl) (fun _ => by kernel_rfl)).as (by simp)) fun a ha => ?_
 refine jZ (jJ ?_)
 refine jU ha rfl rfl ?_
 refine wp_skip (jJ (wp_seq (jX [0, 1, 2, 3, 4, 5, 6, 7, 8, 9, 10, 11] (xZ 93 ha (hS.blk 8 rfl) fun a ha => ?_))))
 refine jV (qK 94 (vs := [.agg #[.slice s0.A s0.n s0.c]]) ha (toProgram_sat hS (hr0.sat hS) hf0) fun v34 w a hp35 ha => ?_)
 obtain ⟨sp6, rfl, hS⟩ := hp35
 refine jY [(2, 95, iv f)] ha fun a ha => ?_
 refine jV (qK 96 (vs := [.agg #[.slice sp6.A sp6.n sp6.c], iv f]) ha (impl_KeepReached_sat hS (hS.rdS 0 rfl) (toP_fits hf0)) fun v36 w a hp37 ha => ?_)
 obtain ⟨sp7, rfl, hS⟩ := hp37
 refine jY [(4, 92, .tuple #[.agg #[.slice sp7.A sp7.n sp7.c], iv ((keepP (toP l0) f).2.1), .bool ((keepP (toP l0) f).2.2)]), (5, 97, .agg #[.slice sp7.A sp7.n sp7.c]), (6, 98, iv ((keepP (toP l0) f).2.1)), (7, 99, .bool ((keepP (toP l0) f).2.2))] ha fun a ha => ?_
 refine jV (qZ 16 [.slice none 0 0] 30 (ptr · 0) ha hS fun b38 w a hb39 hS ha => ?_)
 refine jV (o_sa 0 ha (yX (t := 30) (x := 16) (y := 97)) hS fun w a hS ha => ?_)
 refine jY [(10, 17, iv ((keepP (toP l0) f).2.1)), (11, 18, .bool ((keepP (toP l0) f).2.2))] ha fun a ha => ?_
 refine jZ ?_
 replace ha := ha.as [(4, .bool false), (6, ptr b10 0), (7, iv ((keepP (toP l0) f).2.1)), (8, .bool ((keepP (toP l0) f).2.2)), (10, ptr b18 0), (14, iv (1 + 3 * (tot ((keepP (toP l0) f).1) : Int))), (15, iv (1 + 3 * (tot ((keepP (toP l0) f).1) : Int))), (16, ptr b38 0), (17, iv ((keepP (toP l0) f).2.1)), (18, .bool ((keepP (toP l0) f).2.2))] rfl
 refine jJ (wp_seq (wp_seq (jX [0, 1, 2, 3, 4, 5, 6, 7, 8, 9, 10, 11, 12, 13] (xZ 100 ha (hS.blk 0 rfl) fun a ha => ?_))))
 refine xZ 101 ha (hS.blk 8 rfl) fun a ha => ?_
 refine jV (qK 102 (vs := [.agg #[.slice sp7.A sp7.n sp7.c], .agg #[.slice sp2.A sp2.n sp2.c]]) ha (eqP_sat hS (hS.rdS 1 rfl) (hS.rdS 9 rfl) hfr) fun v40 w a hp41 ha => ?_)
 obtain ⟨rfl, hS⟩ := hp41
 refine jY [(3, 103, .bool false), (4, 104, .bool false), (5, 105, iv ((keepP (toP l0) f).2.1)), (6, 106, iv ((keepP (toP l0) f).2.1))] ha fun a ha => ?_
 refine qX (.bool false) ha ((jW (v := .bool (!(decide ((keepP (toP l0) f).2.1 = (keepP (toP l0) f).2.1)))) ha (AtG.here (gd := 104) ⟨(by kernel_rfl : ((jK Try.f4 25)[7]?).map spec = some ((Op.binOp BinOp.neq 3 (Operand.tmp 105) (Operand.tmp 106) 3), some 107, 4, some (4, false))), by kernel_rfl⟩ ha rfl) (by kernel_rfl) (fun _ => by kernel_rfl)).as (by simp)) fun a ha => ?_
 refine jY [(8, 108, .bool false), (9, 109, .bool false), (10, 110, .bool ((keepP (toP l0) f).2.2)), (11, 111, .bool ((keepP (toP l0) f).2.2))] ha fun a ha => ?_
 refine qX (.bool false) ha ((jW (v := .bool (!(((keepP (toP l0) f).2.2) == ((keepP (toP l0) f).2.2)))) ha (AtG.here (gd := 109) ⟨(by kernel_rfl : ((jK Try.f4 25)[12]?).map spec = some ((Op.binOp BinOp.neq 4 (Operand.tmp 110) (Operand.tmp 111) 4), some 112, 4, some (9, false))), by kernel_rfl⟩ ha rfl) (by kernel_rfl) (fun _ => by kernel_rfl)).as (by simp)) fun a ha => ?_
 refine jY [(13, 113, .bool false)] ha fun a ha => ?_
 refine jZ ?_
 replace ha := ha.as [(4, .bool false), (10, ptr b18 0), (14, iv (1 + 3 * (tot ((keepP (toP l0) f).1) : Int))), (15, iv (1 + 3 * (tot ((keepP (toP l0) f).1) : Int))), (113, .bool false)] rfl
 refine jJ ?_
 refine jU ha rfl rfl ?_
 refine wp_skip (jJ (wp_seq (jX [0] (jY [(0, 15, iv 1)] ha fun a ha => ?_))))
 refine jZ (jJ (wp_seq (jX [0, 1, 2, 3] (xZ 114 ha (hS.blk 6 rfl) fun a ha => ?_))))
 refine jY [(1, 115, iv 1)] ha fun a ha => ?_
 refine jV (qK 116 (vs := [.agg #[.slice sp4.A sp4.n sp4.c], iv 1]) ha (heldProgram_sat hS (hS.rdS 3 rfl) hfr) fun v42 w a hp43 ha => ?_)
 obtain ⟨rfl, hS⟩ := hp43
 refine jY [(3, 15, iv (1 + 3 * (tot ((keepP (toP l0) f).1) : Int)))] ha fun a ha => ?_
 refine jZ (jJ (wp_seq (wp_seq (jX [0, 1] (jY [(0, 117, iv (1 + 3 * (tot ((keepP (toP l0) f).1) : Int)))] ha fun a ha => ?_)))))
 refine qX (.bool false) ha ((jW (v := .bool (decide (1 + 3 * (tot ((keepP (toP l0) f).1) : Int) < 0))) ha (xU (op := (Op.binOp BinOp.lss 3 (Operand.tmp 117) (Operand.const (Value.int IntKind.i64 0)) 3)) (d := some 118) (ty := 4)) (by kernel_rfl) (fun _ => by kernel_rfl)).as (by rw [decide_eq_false (by omega)])) fun a ha => ?_
 refine jZ (jJ ?_)
 refine jU ha rfl rfl ?_
 refine wp_skip (jJ (wp_seq (wp_seq (jX [0, 1, 2] (jY [(0, 119, iv (1 + 3 * (tot ((keepP (toP l0) f).1) : Int))), (1, 120, iv (1 + 3 * (tot ((keepP (toP l0) f).1) : Int)))] ha fun a ha => ?_)))))
 refine qX (.bool false) ha ((jW (v := .bool (!(decide (1 + 3 * (tot ((keepP (toP l0) f).1) : Int) = 1 + 3 * (tot ((keepP (toP l0) f).1) : Int))))) ha (xU (op := (Op.binOp BinOp.neq 3 (Operand.tmp 119) (Operand.tmp 120) 3)) (d := some 121) (ty := 4)) (by kernel_rfl) (fun _ => by kernel_rfl)).as (by simp)) fun a ha => ?_
 refine jZ (jJ ?_)
 refine jU ha rfl rfl ?_
 refine wp_skip (jJ (wp_seq (jX [0] (jY [(0, 4, .bool true)] ha fun a ha => ?_))))
 refine jZ (jJ (wp_ret (qQ ha (by kernel_rfl) (qU (t := 4) ha rfl) ?_)))
 exact ⟨rfl, hS.below⟩
end Go.Proofs.Ytpenhegoilccoaa.G
