/- What the claim FnExactRenumberFunctions rests on, part 26 of 27; the last part proves it: for every input the law answers true, and its arguments read behind the call as before it. No condition. -/
import Derived.Test.YtpenhegoilccoaaQRenumberFunctions12
import Derived.Test.YtpenhegoilccoaaQRenumberFunctions19
import Derived.Test.YtpenhegoilccoaaQRenumberFunctions21
import Derived.Test.YtpenhegoilccoaaQRenumberFunctions24
import Derived.Test.YtpenhegoilccoaaQRenumberFunctions25
set_option linter.unusedSimpArgs false
set_option linter.unusedVariables false
set_option maxRecDepth 20000
set_option maxHeartbeats 1000000
namespace Go.Proofs.Ytpenhegoilccoaa.G
open Go.RowKit Go.Proofs.Ytpenhegoilccoaa.SX Go.Proofs.YtpenhegoilccoaaW.PrintWords Go.Proofs.YtpenhegoilccoaaW.PrintLast Go.Proofs.YtpenhegoilccoaaW.PrintMore
theorem take_next' {l : List Int} {i : Nat} {y : Int} (h : l[i]? = some y) : l.take (i + 1) = l.take i ++ [y] := by rw [List.take_add_one, h]; rfl
theorem code81 : Try.f81.body = some (Code.seq (cr Try.f81 0 false) (Code.seq (cr Try.f81 1 false) Code.ret)) := by kernel_rfl
theorem ocont_sat0 {w0 : World} {se : Sl} {es : List Int} {x : Int} (hre : RdI w0 se es) :
  Calls Try.prog 81 #[.slice se.A se.n se.c, .int .i64 x] w0 (Ret fun r w' => r = .bool (es.contains x) ∧ Sat w0 w' []) := by
 have hS : Sat w0 w0 [] := Sat.start w0
 have hxx := idxI_le es x
 have hbig := hre.big
 refine enter (n := 9) Try.func81 code81 (by kernel_rfl) (Nat.le_of_ble_eq_true rfl) (fun a ha => ?_)
 replace ha : Has 9 [(0, .slice se.A se.n se.c), (1, iv x)] a := ha
 refine wp_seq (jX [0] (jY [(0, 4, .bool false)] ha fun a ha => ?_))
 refine jZ (jJ (wp_seq (jX [0, 1, 2, 3, 4] (jY [(0, 5, .slice se.A se.n se.c), (1, 6, iv x)] ha fun a ha => ?_))))
 refine jV (qX 7 (vs := [.slice se.A se.n se.c, iv x]) ha (bidx_sat hS (hre.sat hS)) fun v1 w a hp2 ha => ?_)
 obtain ⟨rfl, hS⟩ := hp2
 refine jY [(3, 8, .bool (decide ((idxI es x) ≥ 0))), (4, 4, .bool (decide ((idxI es x) ≥ 0)))] ha fun a ha => ?_
 refine jZ (jJ (wp_ret (qJ ha (by kernel_rfl) (qU (t := 4) ha rfl) ?_)))
 have hE : es.contains x = decide ((idxI es x) ≥ 0) := by rw [Bool.eq_iff_iff, List.contains_iff_mem, decide_eq_true_iff]; exact idxI_mem.symm
 rw [hE]
 exact ⟨rfl, hS⟩
theorem ocont_sat {w0 w : World} {Rs : List Asn} {s : Sl} {l : List Int} (hS : Sat w0 w Rs) (hr : RdI w s l) (x : Int) :
  Calls Try.prog 81 #[.slice s.A s.n s.c, .int .i64 x] w (Ret fun r w' => r = .bool (l.contains x) ∧ Sat w0 w' Rs) := lift0 hS (ocont_sat0 hr)
def renS (g : Int → Int) (x : ST) : ST := if x.f0 = 4 ∨ x.f0 = 5 then { x with f1 := g x.f1 } else x
theorem renS_yes {g : Int → Int} {x : ST} (h : x.f0 = 4 ∨ x.f0 = 5) : renS g x = { x with f1 := g x.f1 } := if_pos h
theorem renS_no {g : Int → Int} {x : ST} (h : ¬ (x.f0 = 4 ∨ x.f0 = 5)) : renS g x = x := if_neg h
def toG (tl : List Int) (x : Int) : Int := tl.getD x.toNat 0
def ordB (tl : List Int) (n : Nat) : Bool := decide (tl.length = n) && (List.range n).all fun f => tl.contains (f : Int)
theorem nodup_sub_perm : ∀ (A B : List Int), A.Nodup → (∀ x ∈ A, x ∈ B) → B.length ≤ A.length → A.Perm B
 | [], B, _, _, h => by
  have : B = [] := List.eq_nil_of_length_eq_zero (by simpa using h)
  subst this; exact List.Perm.refl _
 | x :: A, B, hd, hs, h => by
  obtain ⟨h1, h2⟩ := List.nodup_cons.1 hd
  have hx : x ∈ B := hs x List.mem_cons_self
  have hp := List.perm_cons_erase hx
  have hl := hp.length_eq
  simp only [List.length_cons] at hl h
  refine ((nodup_sub_perm A (B.erase x) h2 (fun y hy => ?_) (by omega)).cons x).trans hp.symm
  exact (List.mem_erase_of_ne (fun e => h1 (by rw [← e]; exact hy))).2 (hs y (List.mem_cons_of_mem _ hy))
def rngI (n : Nat) : List Int := (List.range n).map fun i : Nat => (i : Int)
theorem rngI_mem {n : Nat} {x : Int} : x ∈ rngI n ↔ 0 ≤ x ∧ x < (n : Int) := by
 unfold rngI
 rw [List.mem_map]
 constructor
 · rintro ⟨i, hi, rfl⟩; have := List.mem_range.1 hi; omega
 · intro h; exact ⟨x.toNat, List.mem_range.2 (by omega), by omega⟩
theorem rngI_nodup (n : Nat) : (rngI n).Nodup := by
 unfold rngI
 refine List.pairwise_map.2 (List.nodup_range.imp fun h e => h (by omega))
theorem rngI_len (n : Nat) : (rngI n).length = n := by simp [rngI]
theorem ordB_perm {tl : List Int} {n : Nat} (h : ordB tl n = true) : (rngI n).Perm tl := by
 simp only [ordB, Bool.and_eq_true, decide_eq_true_eq, List.all_eq_true, List.mem_range, List.contains_iff_mem] at h
 refine nodup_sub_perm _ _ (rngI_nodup n) (fun x hx => ?_) (by rw [rngI_len]; omega)
 have h1 := rngI_mem.1 hx
 have := h.2 x.toNat (by omega)
 rwa [show ((x.toNat : Nat) : Int) = x by omega] at this
theorem ordB_of {tl : List Int} {n : Nat} (hl : tl.length = n) (hd : tl.Nodup) (hr : ∀ x ∈ tl, 0 ≤ x ∧ x < (n : Int)) : ordB tl n = true := by
 have hp := nodup_sub_perm tl (rngI n) hd (fun x hx => rngI_mem.2 (hr x hx)) (by rw [rngI_len]; omega)
 simp only [ordB, Bool.and_eq_true, decide_eq_true_eq, List.all_eq_true, List.mem_range, List.contains_iff_mem]
 exact ⟨hl, fun f hf => hp.mem_iff.2 (rngI_mem.2 ⟨by omega, by omega⟩)⟩
theorem ordB_len {tl : List Int} {n : Nat} (h : ordB tl n = true) : tl.length = n := by
 simp only [ordB, Bool.and_eq_true, decide_eq_true_eq] at h; exact h.1
theorem ordB_nodup {tl : List Int} {n : Nat} (h : ordB tl n = true) : tl.Nodup := (ordB_perm h).nodup_iff.1 (rngI_nodup n)
theorem ordB_rng {tl : List Int} {n : Nat} (h : ordB tl n = true) {x : Int} (hx : x ∈ tl) : 0 ≤ x ∧ x < (n : Int) := rngI_mem.1 ((ordB_perm h).mem_iff.2 hx)
theorem ordB_bad1 {tl : List Int} {n : Nat} {x : Int} (hx : x ∈ tl) (h : ¬ (0 ≤ x ∧ x < (n : Int))) : ordB tl n = false := by
 rw [← Bool.not_eq_true]; intro k; exact h (ordB_rng k hx)
theorem ordB_bad2 {tl : List Int} {n i : Nat} {x : Int} (hi : tl[i]? = some x) (h : x ∈ tl.take i) : ordB tl n = false := by
 rw [← Bool.not_eq_true]
 intro k
 have hd := ordB_nodup k
 rw [← List.take_append_drop i tl] at hd
 have h2 := (List.nodup_append.1 hd).2.2 x h x (by rw [List.mem_iff_getElem?]; exact ⟨0, by rw [List.getElem?_drop, Nat.add_zero]; exact hi⟩)
 exact h2 rfl
theorem ordB_bad3 {tl : List Int} {n : Nat} (h : ¬ tl.length = n) : ordB tl n = false := by unfold ordB; rw [decide_eq_false h, Bool.false_and]
theorem ordB_bad4 {tl : List Int} {n f : Nat} (hf : f < n) (h : tl.contains (f : Int) = false) : ordB tl n = false := by
 rw [← Bool.not_eq_true]
 intro k
 simp only [ordB, Bool.and_eq_true, List.all_eq_true, List.mem_range] at k
 rw [k.2 f hf] at h; cases h
theorem ordB_all {tl : List Int} {n : Nat} (hl : tl.length = n) (h : ∀ f : Nat, f < n → tl.contains (f : Int) = true) : ordB tl n = true := by
 unfold ordB
 rw [decide_eq_true hl, Bool.true_and, List.all_eq_true]
 intro f hf; exact h f (List.mem_range.1 hf)
theorem ordB_end {tl : List Int} {n : Nat} (hd : tl.Nodup) (hr : ∀ x ∈ tl, 0 ≤ x ∧ x < (n : Int)) : ordB tl n = decide (tl.length = n) := by
 by_cases he : tl.length = n
 · rw [ordB_of he hd hr, decide_eq_true he]
 · rw [ordB_bad3 he, decide_eq_false he]
theorem nodup_snoc {l : List Int} {x : Int} (h : l.Nodup) (hx : l.contains x = false) : (l ++ [x]).Nodup := List.nodup_append.2 ⟨h, by simp, fun y hy z hz e => by
 rw [List.mem_singleton] at hz; subst hz; subst e
 rw [List.contains_iff_mem.2 hy] at hx; cases hx⟩
def manyP (tl : List Int) : Int := tl.foldl (fun m x => max m (x + 1)) 0
theorem many_take {tl : List Int} {i : Nat} {x : Int} (h : tl[i]? = some x) : manyP (tl.take (i + 1)) = max (manyP (tl.take i)) (x + 1) := by
 rw [take_next' h]; unfold manyP; rw [List.foldl_append]; rfl
theorem many_le : ∀ (l : List Int) (m : Int), m ≤ l.foldl (fun m x => max m (x + 1)) m ∧ (∀ x ∈ l, x + 1 ≤ l.foldl (fun m x => max m (x + 1)) m)
  | [], m => ⟨Int.le_refl _, fun x hx => absurd hx List.not_mem_nil⟩
  | y :: l, m => by
    obtain ⟨h1, h2⟩ := many_le l (max m (y + 1))
    refine ⟨by show m ≤ _; have : (y :: l).foldl (fun m x => max m (x + 1)) m = l.foldl (fun m x => max m (x + 1)) (max m (y + 1)) := rfl
               rw [this]; omega, fun x hx => ?_⟩
    show x + 1 ≤ l.foldl (fun m x => max m (x + 1)) (max m (y + 1))
    rcases List.mem_cons.1 hx with rfl | hx
    · omega
    · exact h2 x hx
theorem many_bound : ∀ (l : List Int) (m b : Int), m ≤ b → (∀ x ∈ l, x + 1 ≤ b) → l.foldl (fun m x => max m (x + 1)) m ≤ b
 | [], m, b, h, _ => h
 | y :: l, m, b, h, h2 => many_bound l (max m (y + 1)) b (by have := h2 y List.mem_cons_self; omega) fun x hx => h2 x (List.mem_cons_of_mem _ hx)
theorem manyP_lt {tl : List Int} {x : Int} (h : x ∈ tl) : x < manyP tl := by have := (many_le tl 0).2 x h; unfold manyP; omega
theorem manyP_nonneg (tl : List Int) : 0 ≤ manyP tl := (many_le tl 0).1
theorem manyP_ord {tl : List Int} {n : Nat} (h : ordB tl n = true) : manyP tl = (n : Int) := by
  have h1 : manyP tl ≤ (n : Int) := many_bound tl 0 n (by omega) fun x hx => by have := ordB_rng h hx; omega
  rcases Nat.eq_zero_or_pos n with h0 | h0
  · have := manyP_nonneg tl; omega
  · have h2 : ((n : Int) - 1) ∈ tl := (ordB_perm h).mem_iff.1 (rngI_mem.2 ⟨by omega, by omega⟩)
    have := manyP_lt h2
    omega
def numN (l : List (List ST)) (tl : List Int) : Nat → List (List ST)
 | 0 => List.replicate (manyP tl).toNat []
 | i + 1 => if tl.getD i 0 < 0 then numN l tl i else (numN l tl i).set (tl.getD i 0).toNat ((l.getD i []).map (renS (toG tl)))
def numP (l : List (List ST)) (tl : List Int) : List (List ST) := numN l tl tl.length
theorem numN_len (l : List (List ST)) (tl : List Int) : ∀ i, (numN l tl i).length = (manyP tl).toNat
 | 0 => by simp [numN]
 | i + 1 => by unfold numN; split <;> simp [numN_len l tl i]
theorem numN_neg {l : List (List ST)} {tl : List Int} {i : Nat} {x : Int} (h : tl[i]? = some x) (hx : x < 0) : numN l tl (i + 1) = numN l tl i := by
 have : tl.getD i 0 = x := by simp [List.getD, h]
 rw [numN, this, if_pos hx]
theorem numN_set {l : List (List ST)} {tl : List Int} {i : Nat} {x : Int} {b : List ST} (h : tl[i]? = some x) (hx : ¬ x < 0) (hb : l[i]? = some b) : numN l tl (i + 1) = (numN l tl i).set x.toNat (b.map (renS (toG tl))) := by
 have h1 : tl.getD i 0 = x := by simp [List.getD, h]
 have h2 : l.getD i [] = b := by simp [List.getD, hb]
 rw [numN, h1, h2, if_neg hx]
theorem tot_set_le {L : List (List ST)} {b : List ST} : ∀ (k : Nat), tot (L.set k b) ≤ tot L + b.length := by
 induction L with
 | nil => intro k; simp [tot]
 | cons c L ih =>
  intro k
  cases k with
  | zero => simp [tot]; omega
  | succ k => have := ih k; simp [tot]; omega
theorem tot_rep : ∀ n, tot (List.replicate n ([] : List ST)) = 0
 | 0 => by simp [tot]
 | n + 1 => by rw [List.replicate_succ]; have := tot_rep n; simpa [tot] using this
theorem tot_take_le (l : List (List ST)) : ∀ i, tot (l.take i) ≤ tot l := by
 induction l with
 | nil => intro i; simp [tot]
 | cons c l ih =>
  intro i
  cases i with
  | zero => simp [tot]
  | succ i => have := ih i; simp [tot]; omega
theorem tot_take_next {l : List (List ST)} {i : Nat} {b : List ST} (h : l[i]? = some b) : tot (l.take (i + 1)) = tot (l.take i) + b.length := by
 rw [List.take_add_one, h]
 induction l generalizing i with
 | nil => simp at h
 | cons c l ih =>
  cases i with
  | zero => simp at h; subst h; simp [tot]
  | succ i => simp at h; have := ih h; simp [tot] at this ⊢; omega
theorem numN_tot (l : List (List ST)) (tl : List Int) : ∀ i, tot (numN l tl i) ≤ tot (l.take i)
  | 0 => by rw [numN, tot_rep]; exact Nat.zero_le _
  | i + 1 => by
    have ih := numN_tot l tl i
    have hle : tot (l.take i) ≤ tot (l.take (i + 1)) := by
      cases hb : l[i]? with
      | none => rw [List.take_of_length_le (l := l) (i := i) (List.getElem?_eq_none_iff.1 hb), List.take_of_length_le (l := l) (i := i + 1) (by have := List.getElem?_eq_none_iff.1 hb; omega)]; exact Nat.le_refl _
      | some b => rw [tot_take_next hb]; omega
    unfold numN
    split
    · exact Nat.le_trans ih hle
    · refine Nat.le_trans (tot_set_le _) ?_
      cases hb : l[i]? with
      | none => have h2 : l.getD i [] = [] := by simp [List.getD, hb]
                rw [h2]; simp; omega
      | some b => have h2 : l.getD i [] = b := by simp [List.getD, hb]
                  rw [h2, List.length_map, tot_take_next hb]; omega
theorem numP_tot (l : List (List ST)) (tl : List Int) : tot (numP l tl) ≤ tot l := Nat.le_trans (numN_tot l tl _) (tot_take_le l _)
def renP (l : List (List ST)) (tl : List Int) : List (List ST) × Bool := if (programB l && ordB tl l.length) = true then (numP l tl, true) else ([], false)
theorem renP_no {l : List (List ST)} {tl : List Int} (h : programB l = false ∨ ordB tl l.length = false) : renP l tl = ([], false) := by
 unfold renP; rw [if_neg]; rcases h with h | h <;> rw [h] <;> simp
theorem renP_yes {l : List (List ST)} {tl : List Int} (h : programB l = true) (h2 : ordB tl l.length = true) : renP l tl = (numP l tl, true) := by unfold renP; rw [h, h2]; rfl
theorem renP_fits {l : List (List ST)} (hf : Fits l) (tl : List Int) : Fits (renP l tl).1 := by
  unfold renP
  split
  · rename_i h
    rw [Bool.and_eq_true] at h;refine ⟨?_, Nat.le_trans (numP_tot l tl) hf.2⟩
    show (numN l tl tl.length).length ≤ _
    rw [numN_len, manyP_ord h.2];exact hf.1
  · exact nil_fits
section
variable {w0 w : World} {Rs : List Asn} {s o z : Sl} {L : List (List ST)} {vs : List Sl} {b : List ST}
theorem encSl_snoc (l : List Sl) (x : Sl) : encSl l ++ [.slice x.A x.n x.c] = encSl (l ++ [x]) := by rw [encSl_map, encSl_map, List.map_append]; rfl
theorem nilsStar {B : Nat} (hB : B = w0.heap.size) (h : Sat w0 w Rs) : ∀ m : Nat, Sat w0 w (jG ((List.replicate m ((Value.slice none 0 0, []) : Value × List ST)).map fun x => kdP B k72 72 x.1 x.2) :: Rs)
 | 0 => Sat.merge (l := []) h
 | m + 1 => by
  subst hB
  have h1 : Sat w0 w (SX.row (⟨none, 0, 0⟩ : Sl).v 72 3 (encS3 []) :: _) := Sat.nilRow (nilsStar rfl h m)
  have h2 := ofRow h1
  exact h2.gain
theorem prgNew {m : Nat} (h : Sat w0 w (SX.row s.v 70 1 (encSl (List.replicate m ⟨none, 0, 0⟩)) :: Rs)) : Sat w0 w (prg w0.heap.size s (List.replicate m []) :: Rs) := by
 refine Sat.shutS (List.replicate m (Value.slice none 0 0, [])) (by simp) (fun x hx => ⟨⟨none, 0, 0⟩, by rw [List.eq_of_mem_replicate hx]⟩) ?_
 have e : (List.replicate m ((Value.slice none 0 0, []) : Value × List ST)).map Prod.fst = encSl (List.replicate m ⟨none, 0, 0⟩) := by rw [encSl_map, List.map_replicate, List.map_replicate]
 rw [e]
 exact (nilsStar (w0 := w0) rfl h m).perm (List.Perm.swap _ _ _)
def starD (B : Nat) (L : List (List ST)) (vs : List Sl) (i : Nat) : Asn := exA fun us : { us : List (Value × List ST) // us.map (·.2) = L ∧ us.map (·.1) = vs.map Sl.v } => jG ((us.1.drop i).map fun x => kdP B k72 72 x.1 x.2)
theorem prgOpen (h : Sat w0 w (prg w0.heap.size s L :: Rs)) : ∃ vs : List Sl, vs.length = L.length ∧ Sat w0 w (SX.row s.v 70 1 (encSl vs) :: starD w0.heap.size L vs 0 :: Rs) := by
 obtain ⟨us, h1, h2, h3⟩ := h.openS
 obtain ⟨vs, hv⟩ := sl_list us h2
 have hvl : vs.length = L.length := by rw [← h1, List.length_map]; have := congrArg List.length hv; simpa using this.symm
 refine ⟨vs, hvl, ?_⟩
 rw [show us.map Prod.fst = vs.map Sl.v from hv] at h3
 rw [encSl_map]
 exact h3.shut (R := fun us : { us : List (Value × List ST) // us.map (·.2) = L ∧ us.map (·.1) = vs.map Sl.v } => jG ((us.1.drop 0).map fun x => kdP w0.heap.size k72 72 x.1 x.2)) ⟨us, h1, hv⟩ 1 rfl
theorem prgSnoc (h : Sat w0 w (SX.row o.v 70 1 (encSl (vs ++ [z])) :: SX.row z.v 72 3 (encS3 b) :: starD w0.heap.size L vs 0 :: Rs)) : Sat w0 w (prg w0.heap.size o (L ++ [b]) :: Rs) := by
  obtain ⟨⟨us, h1, h2⟩, h3⟩ := h.open_ 2 rfl
  have h4 : Sat w0 w (SX.row z.v 72 3 (encS3 b) :: SX.row o.v 70 1 (encSl (vs ++ [z])) :: jG ((us.drop 0).map fun x => kdP w0.heap.size k72 72 x.1 x.2) :: Rs) := Sat.perm h3 (List.Perm.swap _ _ _)
  have h5 := ofRow h4
  have h6 := h5.perm (List.Perm.cons _ (List.Perm.swap _ _ _))
  have h7 : Sat w0 w (jG (((us ++ [(z.v, b)]).map fun x => kdP w0.heap.size k72 72 x.1 x.2)) :: SX.row o.v 70 1 (encSl (vs ++ [z])) :: Rs) := by
    rw [List.map_append];have := Sat.putIn (l1 := us.map fun x => kdP w0.heap.size k72 72 x.1 x.2) (l2 := []) (A := kdP w0.heap.size k72 72 z.v b) (by simpa using h6)
    simpa using this
  refine Sat.shutS (us ++ [(z.v, b)]) (by rw [List.map_append, h1]; rfl) (fun y hy => ?_) ?_
  · have hy1 : y.1 ∈ ((us ++ [(z.v, b)]).map (·.1)) := List.mem_map_of_mem hy
    rw [List.map_append, h2] at hy1
    rcases List.mem_append.1 hy1 with hy1 | hy1
    · obtain ⟨q, _, hq⟩ := List.mem_map.1 hy1; exact ⟨q, hq.symm⟩
    · exact ⟨z, by simpa using hy1⟩
  · rw [show (us ++ [(z.v, b)]).map Prod.fst = encSl (vs ++ [z]) by rw [List.map_append, show us.map Prod.fst = vs.map Sl.v from h2, encSl_map, List.map_append]; rfl]
    exact h7.perm (List.Perm.swap _ _ _)
theorem starTake {i : Nat} (hb : L[i]? = some b) (hz : vs[i]? = some z) (h : Sat w0 w (starD w0.heap.size L vs i :: Rs)) : Sat w0 w (SX.row z.v 72 3 (encS3 b) :: starD w0.heap.size L vs (i + 1) :: Rs) := by
 obtain ⟨⟨us, h1, h2⟩, h3⟩ := h.open_ 0 rfl
 obtain ⟨x, hx, hx2⟩ : ∃ x, us[i]? = some x ∧ x.2 = b := by
  have h4 : (us.map (·.2))[i]? = some b := by rw [h1, hb]
  rw [List.getElem?_map] at h4
  exact Option.map_eq_some_iff.1 h4
 have hx1 : x.1 = z.v := by
  have h4 : (us.map (·.1))[i]? = some z.v := by rw [h2, List.getElem?_map, hz]; rfl
  rw [List.getElem?_map, hx] at h4
  exact Option.some.inj h4
 have hlt := (List.getElem?_eq_some_iff.1 hx).1
 have hdr : us.drop i = x :: us.drop (i + 1) := by rw [List.drop_eq_getElem_cons hlt]; congr 1; exact Option.some.inj ((List.getElem?_eq_getElem hlt).symm.trans hx)
 have h4 : Sat w0 w (jG ((us.drop i).map fun x => kdP w0.heap.size k72 72 x.1 x.2) :: Rs) := h3
 have h5 := Sat.takeAt (g := fun x : Value × List ST => kdP w0.heap.size k72 72 x.1 x.2) (l := us.drop i) (j := 0) (x := x) (by rw [hdr]; rfl) h4
 rw [hx1, hx2] at h5
 have h6 := toRow h5
 rw [show (us.drop i).eraseIdx 0 = us.drop (i + 1) by rw [hdr]; rfl] at h6
 exact h6.shut (R := fun us : { us : List (Value × List ST) // us.map (·.2) = L ∧ us.map (·.1) = vs.map Sl.v } => jG ((us.1.drop (i + 1)).map fun x => kdP w0.heap.size k72 72 x.1 x.2)) ⟨us, h1, h2⟩ 1 rfl
theorem cloneS_sat {A : Option Addr} {c : Nat} (hS : Sat w0 w Rs) (hr : Kd.C k72 w A b.length b) (hc : b.length ≤ c) (hb : b.length ≤ 1048576) :
  Calls Try.prog 131 #[.slice A b.length c] w (Ret fun r w' => ∃ z : Sl, r = .slice z.A z.n z.c ∧ Sat w0 w' (SX.row z.v 72 3 (encS3 b) :: Rs)) := by
 have hq : impl_Step_131.f b = some b := by
  simp only [impl_Step_131.f, Option.bind_some, List.nil_append, List.length_nil]
  rw [if_pos (by omega)]
 refine (impl_Step_131.calls A c b b w hr hc hq).mono ?_
 rintro e w' ⟨v, rfl, h1, h2⟩
 have h3 := hS.kdMade h2 h1
 obtain ⟨q, hq2⟩ : ∃ q : Sl, v = q.v := by
  obtain ⟨_, _, ho, _⟩ := h1
  rcases ho.2 with ⟨hv, _⟩ | ⟨g, cap, cur, hv, _⟩
  · exact ⟨⟨none, 0, 0⟩, hv⟩
  · exact ⟨⟨some ⟨g, 0, none⟩, _, cap⟩, hv⟩
 subst hq2
 exact ⟨q, rfl, toRow h3⟩
end
def callB (x : ST) : Bool := decide (x.f0 = 4) || decide (x.f0 = 5)
theorem callB_yes {x : ST} (h : callB x = true) : x.f0 = 4 ∨ x.f0 = 5 := by simpa [callB] using h
theorem callB_no {x : ST} (h : callB x = false) : ¬ (x.f0 = 4 ∨ x.f0 = 5) := by intro k; rw [show callB x = true by simpa [callB] using k] at h; cases h
theorem code132 : Try.f132.body = some (Code.seq (cr Try.f132 0 false) (Code.seq (cr Try.f132 1 false) Code.ret)) := by kernel_rfl
theorem calls_sat {w0 w : World} {Rs : List Asn} {x : ST} (hS : Sat w0 w Rs) :
  Calls Try.prog 132 #[.agg #[iv x.f0, iv x.f1, iv x.f2]] w (Ret fun r w' => r = .bool (callB x) ∧ Sat w0 w' Rs) := by
 refine enter (n := 11) Try.func132 code132 (by kernel_rfl) (Nat.le_of_ble_eq_true rfl) (fun a ha => ?_)
 replace ha : Has 11 [(0, .agg #[iv x.f0, iv x.f1, iv x.f2])] a := ha
 refine wp_seq (jX [0, 1] (jV (qH 1 [iv x.f0, iv x.f1, iv x.f2] 72 (ptr · 0) ha hS fun b1 w a hb2 hS ha => ?_)))
 refine jY [(1, 2, .bool false)] ha fun a ha => ?_
 refine jZ (jJ (wp_seq (jX [0, 1, 2, 3, 4, 5, 6, 7, 8] (jY [(0, 3, ptr b1 0)] ha fun a ha => ?_))))
 refine qG (d := 4) (b := b1) (j := 0) ha (hS.blk 0 rfl) rfl fun a ha => ?_
 refine jY [(2, 5, .bool (decide (x.f0 = 4))), (3, 6, .bool (decide (x.f0 = 4)))] ha fun a ha => ?_
 by_cases c3 : x.f0 = 4
 ·
  replace ha := ha.turn 5 (.bool true) rfl (congrArg Value.bool (decide_eq_true c3))
  replace ha := ha.turn 6 (.bool true) rfl (congrArg Value.bool (decide_eq_true c3))
  refine jY [(4, 7, undef), (5, 8, undef), (6, 9, undef), (7, 10, .bool true), (8, 2, .bool true)] ha fun a ha => ?_
  refine jZ (jJ (wp_ret (qJ ha (by kernel_rfl) (qU (t := 2) ha rfl) ?_)))
  have hE : callB x = true := by unfold callB; simp [c3]
  rw [hE]
  exact ⟨rfl, Sat.rest [_] hS⟩
 replace ha := ha.turn 5 (.bool false) rfl (congrArg Value.bool (decide_eq_false c3))
 replace ha := ha.turn 6 (.bool false) rfl (congrArg Value.bool (decide_eq_false c3))
 refine jY [(4, 7, ptr b1 0)] ha fun a ha => ?_
 refine qG (d := 8) (b := b1) (j := 0) ha (hS.blk 0 rfl) rfl fun a ha => ?_
 refine jY [(6, 9, .bool (decide (x.f0 = 5))), (7, 10, .bool (decide (x.f0 = 5))), (8, 2, .bool (decide (x.f0 = 5)))] ha fun a ha => ?_
 refine jZ (jJ (wp_ret (qJ ha (by kernel_rfl) (qU (t := 2) ha rfl) ?_)))
 have hE : callB x = decide (x.f0 = 5) := by unfold callB; simp [c3]
 rw [hE]
 exact ⟨rfl, Sat.rest [_] hS⟩
theorem okC_of {l : List (List ST)} {b : List ST} (h : programB l = true) (hb : b ∈ l) : ∀ x ∈ b, x.f0 = 4 ∨ x.f0 = 5 → 0 ≤ x.f1 ∧ x.f1 < (l.length : Int) := by
 have hP := progOk_of h
 intro x hx h45
 have := (hP.steps (b.map toStp) (List.mem_map_of_mem hb) (toStp x) (List.mem_map_of_mem hx)).f h45
 rwa [PL_length] at this
def rnL (g : Int → Int) (l : List (List ST)) (i : Nat) : List (List ST) := (l.take i).map (List.map (renS g))
theorem rnL_next {g : Int → Int} {l : List (List ST)} {i : Nat} {b : List ST} (h : l[i]? = some b) : rnL g l (i + 1) = rnL g l i ++ [b.map (renS g)] := by unfold rnL; rw [List.take_add_one, h, List.map_append]; rfl
theorem rnL_len {g : Int → Int} {l : List (List ST)} {i : Nat} (h : i ≤ l.length) : (rnL g l i).length = i := by unfold rnL; rw [List.length_map, List.length_take]; omega
theorem code73 : Try.f73.body = some (Code.seq (cr Try.f73 0 false) (Code.seq (cr Try.f73 1 false) (Code.seq (Code.seq (cr Try.f73 2 false) (Code.block 0 (Code.loop (Code.seq (cr Try.f73 3 false) (Code.seq (Code.cond (Operand.tmp 15) Code.skip (Code.exit 0)) (Code.seq (Code.block 1 (Code.seq (cr Try.f73 4 false) (Code.seq (cr Try.f73 5 false) (Code.seq (Code.seq (cr Try.f73 6 false) (Code.block 2 (Code.loop (Code.seq (cr Try.f73 7 false) (Code.seq (Code.cond (Operand.tmp 23) Code.skip (Code.exit 2)) (Code.seq (Code.block 3 (Code.seq (cr Try.f73 8 false) (Code.seq (cr Try.f73 9 false) (Code.cond (Operand.tmp 28) (cr Try.f73 10 false) Code.skip)))) (cr Try.f73 11 false))))))) (cr Try.f73 12 false))))) (cr Try.f73 13 false))))))) (Code.seq (cr Try.f73 14 false) Code.ret)))) := by kernel_rfl
theorem renI_sat {w0 w : World} {Rs : List Asn} {s0 : Sl} {l : List (List ST)} {F : Nat} {fn : Func} {cap : List Value} {g : Int → Int} (hS : Sat w0 w Rs) (hr : RdP w0 s0 l) (hf : Fits l) (hpg : programB l = true) (hfn : Try.prog.funcs[F]? = some fn) (hbn : (fn.body.isNone || fn.name == "runtime.NumGoroutine") = false)
  (hcl : ∀ (w1 : World) (Xs : List Asn) (x : Int), 0 ≤ x ∧ x < (l.length : Int) → Sat w0 w1 (Xs ++ Rs) → Calls Try.prog F (.int .i64 x :: cap).toArray w1 (Ret fun r w' => r = .int .i64 (g x) ∧ Sat w0 w' (Xs ++ Rs))) :
  Calls Try.prog 73 #[.slice s0.A s0.n s0.c, .func (.func F) #[] cap.toArray] w (Ret fun r w' => ∃ o : Sl, r = .slice o.A o.n o.c ∧ Sat w0 w' (prg w0.heap.size o (l.map (List.map (renS g))) :: Rs)) := by
 have hsn := hr.len
 have hlen := hf.len
 refine enter (n := 44) Try.func73 code73 (by kernel_rfl) (Nat.le_of_ble_eq_true rfl) (fun a ha => ?_)
 replace ha : Has 44 [(0, .slice s0.A s0.n s0.c), (1, (.func (.func F) #[] cap.toArray))] a := ha
 refine wp_seq (jX [0] (jY [(0, 4, .slice none 0 0)] ha fun a ha => ?_))
 refine jZ (jJ (wp_seq (jX [0, 1] (jV (qH 11 [] 70 (fun b => .slice (some ⟨b, 0, none⟩) 0 0) ha hS fun b1 w a hb2 hS ha => ?_)))))
 refine jY [(1, 5, .slice (some ⟨b1, 0, none⟩) 0 0)] ha fun a ha => ?_
 refine jZ (jJ (wp_seq (wp_seq (jX [0, 1, 2] (jY [(0, 12, .slice s0.A s0.n s0.c), (1, 13, iv (s0.n : Int)), (2, 14, iv 0)] ha fun a ha => ?_)))))
 refine jZ (jJ (wp_block ?_))
 replace hS := hS.blk0 1 0 rfl
 replace hS : Sat w0 w ((SX.row (.slice ((⟨some ⟨b1, 0, none⟩, 0, 0⟩ : Sl).A) ((⟨some ⟨b1, 0, none⟩, 0, 0⟩ : Sl).n) ((⟨some ⟨b1, 0, none⟩, 0, 0⟩ : Sl).c)) 70 1 (encSl [])) :: Rs) := hS
 replace hS := prgNew (m := 0) (s := ⟨some ⟨b1, 0, none⟩, 0, 0⟩) hS
 replace hS : Sat w0 w ((prg w0.heap.size (⟨some ⟨b1, 0, none⟩, 0, 0⟩ : Sl) (rnL g l 0)) :: Rs) := hS
 refine wp_loop_ghost (fun n_ a_ w_ => ∃ (i : Nat) (o : Sl), n_ = l.length - i ∧ (i ≤ l.length) ∧ Has 44 [(1, (.func (.func F) #[] cap.toArray)), (4, .slice none 0 0), (12, .slice s0.A s0.n s0.c), (13, iv (s0.n : Int)), (5, .slice o.A o.n o.c), (14, iv (i : Int))] a_ ∧ Sat w0 w_ ((prg w0.heap.size o (rnL g l i)) :: Rs)) _ ⟨0, ⟨some ⟨b1, 0, none⟩, 0, 0⟩, rfl, Nat.zero_le _, ha.keeps [1, 4, 12, 13, 5, 14] _ rfl, hS⟩ ?_
 rintro n_ a w ⟨i, o, rfl, hi, ha, hS⟩
 refine wp_seq (jX [0] (jY [(0, 15, .bool (decide ((i : Int) < (s0.n : Int))))] ha fun a ha => ?_))
 refine jZ (jJ (wp_seq ?_))
 by_cases c3 : (i : Int) < (s0.n : Int)
 ·
  have hil : i < l.length := by omega
  obtain ⟨b, hb⟩ : ∃ b, l[i]? = some b := ⟨_, List.getElem?_eq_getElem hil⟩
  have hb1 : b.length ≤ 1048576 := hf.each b (List.mem_of_getElem? hb)
  obtain ⟨hA0, A2, c2, hcb, hl2, hkd⟩ := rows_cells hr.rd i b hb
  refine jH ha rfl (decide_eq_true c3) ?_
  refine wp_skip (jJ (wp_seq (wp_block (wp_seq (jX [0, 1, 2] (qK (.pointer (some ⟨bk s0, of_ s0 + i * 1, none⟩)) ha (qV (s := s0) (el := 70) (sz := 1) (j := i) ha (xX (t := 28) (x := 12) (y := 14) (d := 16)) rfl rfl (by kernel_rfl) (by kernel_rfl) hA0 (by rw [hr.len]; omega)) fun a ha => ?_))))))
  refine qK (.slice A2 b.length c2) ha (qW (p := ⟨bk s0, of_ s0 + i * 1, none⟩) ha (xZ (t := 70) (x := 16) (d := 17) (ty := 70)) rfl (by kernel_rfl) (fun w' hw => by rw [hw]; rw [Nat.mul_one]; exact pw_cell_below hS.below hcb)) fun a ha => ?_
  refine jY [(2, 7, .slice A2 b.length c2)] ha fun a ha => ?_
  refine jZ (jJ (wp_seq (jX [0, 1, 2] (jY [(0, 18, .slice A2 b.length c2)] ha fun a ha => ?_))))
  refine jV (qX 19 (vs := [.slice A2 b.length c2]) ha (cloneS_sat hS (Kd.C_below hkd hS.below) hl2 hb1) fun v4 w a hp5 ha => ?_)
  obtain ⟨z, rfl, hS⟩ := hp5
  refine jY [(2, 8, .slice z.A z.n z.c)] ha fun a ha => ?_
  refine jZ (jJ (wp_seq (wp_seq (jX [0, 1, 2] (jY [(0, 20, .slice z.A z.n z.c), (1, 21, iv (z.n : Int)), (2, 22, iv 0)] ha fun a ha => ?_)))))
  refine jZ (jJ (wp_block ?_))
  replace hS : Sat w0 w ((SX.row (.slice z.A z.n z.c) 72 3 (encS3 b)) :: (prg w0.heap.size o (rnL g l i)) :: Rs) := hS
  replace hS : Sat w0 w ((SX.row (.slice z.A z.n z.c) 72 3 (encS3 (cur (renS g) b 0))) :: (prg w0.heap.size o (rnL g l i)) :: Rs) := by rw [cur_zero]; exact hS
  have hzn : z.n = b.length := by have h9 := hS.rowL (s := z) (enc := cT) 0 cT_len (by decide) rfl; rw [cur_len] at h9; exact h9
  refine wp_loop_ghost (fun n_ a_ w_ => ∃ (k : Nat), n_ = b.length - k ∧ (k ≤ b.length) ∧ Has 44 [(1, (.func (.func F) #[] cap.toArray)), (4, .slice none 0 0), (12, .slice s0.A s0.n s0.c), (13, iv (s0.n : Int)), (5, .slice o.A o.n o.c), (14, iv (i : Int)), (15, .bool (decide ((i : Int) < (s0.n : Int)))), (16, .pointer (some ⟨bk s0, of_ s0 + i * 1, none⟩)), (17, .slice A2 b.length c2), (7, .slice A2 b.length c2), (18, .slice A2 b.length c2), (19, .slice z.A z.n z.c), (8, .slice z.A z.n z.c), (20, .slice z.A z.n z.c), (21, iv (z.n : Int)), (22, iv (k : Int))] a_ ∧ Sat w0 w_ ((SX.row (.slice z.A z.n z.c) 72 3 (encS3 (cur (renS g) b k))) :: (prg w0.heap.size o (rnL g l i)) :: Rs)) _ ⟨0, rfl, Nat.zero_le _, ha.keeps [1, 4, 12, 13, 5, 14, 15, 16, 17, 7, 18, 19, 8, 20, 21, 22] _ rfl, hS⟩ ?_
  rintro n_ a w ⟨k, rfl, hk, ha, hS⟩
  refine wp_seq (jX [0] (jY [(0, 23, .bool (decide ((k : Int) < (z.n : Int))))] ha fun a ha => ?_))
  refine jZ (jJ (wp_seq ?_))
  by_cases c6 : (k : Int) < (z.n : Int)
  ·
   have hkl : k < b.length := by omega
   obtain ⟨x, hx⟩ : ∃ x, b[k]? = some x := ⟨_, List.getElem?_eq_getElem hkl⟩;refine jH ha rfl (decide_eq_true c6) ?_;refine wp_skip (jJ (wp_seq (wp_block (wp_seq (jX [0, 1, 2, 3, 4, 5] (jY [(0, 24, iv (k : Int))] ha fun a ha => ?_))))));refine qK (.pointer (some ⟨bk z, k * 3, none⟩)) ha (yJ (s := z) (el := 72) (sz := 3) (j := k) ha (xX (t := 70) (x := 20) (y := 22) (d := 25)) rfl rfl (by kernel_rfl) (by kernel_rfl) (hS.rowA (s := z) 0 rfl (by have := (List.getElem?_eq_some_iff.1 (cur_get (g := renS g) hx)).1; rw [encS3_length]; omega)) (rfl) (by have h9 := hS.rowL (s := z) (enc := cT) 0 cT_len (by decide) rfl; have := (List.getElem?_eq_some_iff.1 (cur_get (g := renS g) hx)).1; omega)) fun a ha => ?_;refine qK (.agg #[iv x.f0, iv x.f1, iv x.f2]) ha (v_loadL ha (xZ (t := 72) (x := 25) (d := 26) (ty := 72)) rfl (fun w' hw => by rw [hw]; exact run_loadVar_agg (vs := [iv x.f0, iv x.f1, iv x.f2]) (by kernel_rfl) (fun i u hu => by match i, hu with | 0, hu => rw [add0]; rw [← Option.some.inj hu]; exact ((hS.rdC (s := z) 0 rfl).cells _ _ ((flat_get (enc := cT) (o := 0) cT_len (cur_get (g := renS g) hx) (by decide)).trans rfl)) | 1, hu => rw [add0]; rw [← Option.some.inj hu]; exact ((hS.rdC (s := z) 0 rfl).cells _ _ ((flat_get (enc := cT) (o := 1) cT_len (cur_get (g := renS g) hx) (by decide)).trans rfl)) | 2, hu => rw [add0]; rw [← Option.some.inj hu]; exact ((hS.rdC (s := z) 0 rfl).cells _ _ ((flat_get (enc := cT) (o := 2) cT_len (cur_get (g := renS g) hx) (by decide)).trans rfl)) | n + 3, hu => simp at hu))) fun a ha => ?_;refine jV (qH 10 [iv 0, iv 0, iv 0] 72 (ptr · 0) ha hS fun b7 w a hb8 hS ha => ?_);refine jY [(4, 9, iv (k : Int))] ha fun a ha => ?_;refine jV (o_sa 0 ha (xW (t := 72) (x := 10) (y := 26)) hS fun w a hS ha => ?_);refine jZ (jJ (wp_seq (jX [0, 1] (xJ 27 ha (hS.blk 0 rfl) fun a ha => ?_))));refine jV (qX 28 (vs := [.agg #[iv x.f0, iv x.f1, iv x.f2]]) ha (calls_sat (x := x) hS) fun v9 w a hp10 ha => ?_);obtain ⟨rfl, hS⟩ := hp10;refine jZ (jJ ?_)
   rcases Bool.eq_false_or_eq_true (callB x) with c11 | c11
   ·
    refine jH ha rfl c11 ?_;refine jX [0, 1, 2, 3, 4, 5, 6, 7, 8] (jY [(0, 29, .slice z.A z.n z.c), (1, 30, iv (k : Int)), (2, 31, (.func (.func F) #[] cap.toArray)), (3, 32, ptr b7 1)] ha fun a ha => ?_);refine qG (d := 33) (b := b7) (j := 1) ha (hS.blk 0 rfl) rfl fun a ha => ?_;have hct := okC_of hpg (List.mem_of_getElem? hb) x (List.mem_of_getElem? hx) (callB_yes c11);refine jV (o_retF (t := 31) (f := F) (cap := cap) ha (by decide) (yG (op := (Op.call { callee := (Callee.value (Operand.tmp 31)), args := #[(Operand.tmp 33)], argTypes := #[3] })) (d := some 34) (ty := 3)) rfl rfl hfn hbn (hcl _ [_, _, _] x.f1 hct hS) fun v12 w a hp13 ha => ?_);obtain ⟨rfl, hS⟩ := hp13;refine qK (.pointer (some ⟨bk z, k * 3, none⟩)) ha (yJ (s := z) (el := 72) (sz := 3) (j := k) ha (xX (t := 70) (x := 29) (y := 30) (d := 35)) rfl rfl (by kernel_rfl) (by kernel_rfl) (hS.rowA (s := z) 1 rfl (by have := (List.getElem?_eq_some_iff.1 (cur_get (g := renS g) hx)).1; rw [encS3_length]; omega)) (rfl) (by have h9 := hS.rowL (s := z) (enc := cT) 1 cT_len (by decide) rfl; have := (List.getElem?_eq_some_iff.1 (cur_get (g := renS g) hx)).1; omega)) fun a ha => ?_;refine jY [(7, 36, .pointer (some ⟨bk z, k * 3 + 1, none⟩))] ha fun a ha => ?_;refine jV (yQ (s := z) (j := k * 3 + 1) (xs := encS3 (cur (renS g) b k)) (xs' := encS3 ((cur (renS g) b k).set k ({ x with f1 := g x.f1 } : ST))) 1 ha (xW (t := 3) (x := 36) (y := 34)) rfl rfl rfl (by kernel_rfl) hS rfl (by have := (List.getElem?_eq_some_iff.1 (cur_get (g := renS g) hx)).1; rw [encS3_length]; omega) ((flat_set (enc := cT) (x' := ({ x with f1 := g x.f1 } : ST)) cT_len (cur_get (g := renS g) hx) (by decide) rfl)) (fun w a (hS : Sat w0 w ((SX.blk b7 [iv x.f0, iv x.f1, iv x.f2] 72) :: (SX.row (.slice z.A z.n z.c) 72 3 (encS3 ((cur (renS g) b k).set k ({ x with f1 := g x.f1 } : ST)))) :: (prg w0.heap.size o (rnL g l i)) :: Rs)) ha => ?_));refine jZ (in_n (jJ (jX [0, 1] (xQ 37 ((k : Int) + 1) ha fun a ha => ?_))));refine jY [(1, 22, iv ((k : Int) + 1))] ha fun a ha => ?_;refine jZ (jJ ?_);replace hS := hS.pickN 3 [1, 2];replace hS : Sat w0 w ((SX.row (.slice z.A z.n z.c) 72 3 (encS3 (cur (renS g) b (k + 1)))) :: (prg w0.heap.size o (rnL g l i)) :: Rs) := by rw [← cur_set hx, renS_yes (callB_yes c11)]; exact hS
    exact ⟨_, by omega, k + 1, rfl, hkl, ha.keeps [1, 4, 12, 13, 5, 14, 15, 16, 17, 7, 18, 19, 8, 20, 21, 22] _ rfl, hS⟩
   refine jU ha rfl c11 ?_;refine wp_skip (in_n (jJ (jX [0, 1] (xQ 37 ((k : Int) + 1) ha fun a ha => ?_))));refine jY [(1, 22, iv ((k : Int) + 1))] ha fun a ha => ?_;refine jZ (jJ ?_);replace hS := hS.pickN 3 [1, 2];replace hS : Sat w0 w ((SX.row (.slice z.A z.n z.c) 72 3 (encS3 (cur (renS g) b (k + 1)))) :: (prg w0.heap.size o (rnL g l i)) :: Rs) := by rw [← cur_same hx (renS_no (callB_no c11))]; exact hS
   exact ⟨_, by omega, k + 1, rfl, hkl, ha.keeps [1, 4, 12, 13, 5, 14, 15, 16, 17, 7, 18, 19, 8, 20, 21, 22] _ rfl, hS⟩
  refine jU ha rfl (decide_eq_false c6) ?_
  refine wp_exit (qQ (qQ (in_x (jJ ?_))))
  replace hS := hS.pickN 2 [1, 0]
  obtain ⟨vs, hvl, hS⟩ := prgOpen hS
  replace hS : Sat w0 w ((SX.row (.slice o.A o.n o.c) 70 1 (encSl vs)) :: (starD w0.heap.size (rnL g l i) vs 0) :: (SX.row (.slice z.A z.n z.c) 72 3 (encS3 (cur (renS g) b k))) :: Rs) := hS
  refine jX [0, 1, 2, 3, 4] (jY [(0, 38, .slice o.A o.n o.c), (1, 39, .slice z.A z.n z.c)] ha fun a ha => ?_)
  refine jV (qH 40 [.slice z.A z.n z.c] 70 (fun b => .slice (some ⟨b, 0, none⟩) 1 1) ha hS fun b14 w a hb15 hS ha => ?_)
  refine jV (o_ap 41 1 0 (encSl (vs ++ [z])) ha hS rfl rfl (by rw [encSl_length]; have := rnL_len (g := g) hi; simp only [List.length_cons, List.length_nil]; omega) (encSl_snoc _ _) fun s19 w a hS hn20 ha => ?_)
  replace hS := hS.pickN 4 [1, 3, 2]
  obtain rfl : k = b.length := by omega
  rw [cur_end] at hS
  replace hS := prgSnoc hS
  replace hS : Sat w0 w ((prg w0.heap.size s19 (rnL g l i ++ [b.map (renS g)])) :: Rs) := hS
  refine jY [(4, 5, .slice s19.A s19.n s19.c)] ha fun a ha => ?_
  refine jZ (in_n (jJ (jX [0, 1] (xQ 42 ((i : Int) + 1) ha fun a ha => ?_))))
  refine jY [(1, 14, iv ((i : Int) + 1))] ha fun a ha => ?_
  refine jZ (jJ ?_)
  replace hS : Sat w0 w ((prg w0.heap.size s19 (rnL g l i ++ [b.map (renS g)])) :: Rs) := hS
  replace hS : Sat w0 w ((prg w0.heap.size s19 (rnL g l (i + 1))) :: Rs) := by rw [rnL_next hb]; exact hS
  exact ⟨_, by omega, i + 1, s19, rfl, hil, ha.keeps [1, 4, 12, 13, 5, 14] _ rfl, hS⟩
 refine jU ha rfl (decide_eq_false c3) ?_
 refine wp_exit (qQ (qQ (in_x (jJ (wp_seq (jX [0, 1] (jY [(0, 43, .slice o.A o.n o.c), (1, 4, .slice o.A o.n o.c)] ha fun a ha => ?_)))))))
 refine jZ (jJ (wp_ret (qJ ha (by kernel_rfl) (qU (t := 4) ha rfl) ?_)))
 obtain rfl : i = l.length := by omega
 have hE : rnL g l l.length = l.map (List.map (renS g)) := by unfold rnL; rw [List.take_length]
 rw [hE] at hS
 exact ⟨o, rfl, hS.pickN 1 [0]⟩
theorem code89 : Try.f89.body = some (Code.seq (cr Try.f89 0 false) (Code.seq (cr Try.f89 1 false) Code.ret)) := by kernel_rfl
theorem renC_sat0 {w0 w : World} {Rs : List Asn} {rt : Sl} {tl : List Int} {x : Int} {b1 : Nat} (hS : Sat w0 w ((SX.blk b1 [.slice rt.A rt.n rt.c] 44) :: Rs)) (hrt : RdI w0 rt tl) (hix : 0 ≤ x ∧ x < (tl.length : Int)) :
  Calls Try.prog 89 #[.int .i64 x, .pointer (some ⟨b1, 0, none⟩)] w (Ret fun r w' => r = .int .i64 (toG tl x) ∧ Sat w0 w' ((SX.blk b1 [.slice rt.A rt.n rt.c] 44) :: Rs)) := by
 have hln := hrt.len
 refine enter (n := 8) Try.func89 code89 (by kernel_rfl) (Nat.le_of_ble_eq_true rfl) (fun a ha => ?_)
 replace ha : Has 8 [(0, iv x), (1, ptr b1 0)] a := ha
 refine wp_seq (jX [0] (jY [(0, 3, iv 0)] ha fun a ha => ?_))
 refine jZ (jJ (wp_seq (jX [0, 1, 2, 3, 4] (qG (d := 4) (b := b1) (j := 0) ha (hS.blk 0 rfl) rfl fun a ha => ?_))))
 refine jY [(1, 5, iv x)] ha fun a ha => ?_
 refine qK (.pointer (some ⟨bk rt, of_ rt + x.toNat * 1, none⟩)) ha (xK (el := 3) (sz := 1) (j := x.toNat) ha (xX (t := 44) (x := 4) (y := 5) (d := 6)) rfl rfl (by kernel_rfl) (by kernel_rfl) ((hrt.sat hS).at_ (show x.toNat < tl.length by omega)).1 ((Int.toNat_of_nonneg hix.1).symm) (by rw [((hrt.sat hS)).len]; exact (show x.toNat < tl.length by omega))) fun a ha => ?_
 refine qK (iv (tl.getD x.toNat 0)) ha (qW (p := ⟨bk rt, of_ rt + x.toNat * 1, none⟩) ha (xZ (t := 3) (x := 6) (d := 7) (ty := 3)) rfl (by kernel_rfl) (fun w' hw => by rw [hw, Nat.mul_one]; exact ((hrt.sat hS).at_ (show x.toNat < tl.length by omega)).2)) fun a ha => ?_
 refine jY [(4, 3, iv (tl.getD x.toNat 0))] ha fun a ha => ?_
 refine jZ (jJ (wp_ret (qJ ha (by kernel_rfl) (qU (t := 3) ha rfl) ?_)))
 exact ⟨rfl, hS.pickN 1 [0]⟩
theorem renC_sat {w0 w : World} {Rs Xs : List Asn} {rt : Sl} {tl : List Int} {x : Int} {b1 : Nat} (hS : Sat w0 w (Xs ++ (SX.blk b1 [.slice rt.A rt.n rt.c] 44 :: Rs))) (hrt : RdI w0 rt tl) (hix : 0 ≤ x ∧ x < (tl.length : Int)) :
  Calls Try.prog 89 #[.int .i64 x, .pointer (some ⟨b1, 0, none⟩)] w (Ret fun r w' => r = .int .i64 (toG tl x) ∧ Sat w0 w' (Xs ++ (SX.blk b1 [.slice rt.A rt.n rt.c] 44 :: Rs))) := by
 refine (renC_sat0 (Rs := Xs ++ Rs) (hS.perm List.perm_middle) hrt hix).mono fun e w' h => ?_
 cases e with
 | returned r => exact ⟨h.1, h.2.perm List.perm_middle.symm⟩
 | _ => exact h.elim
theorem rdi_lec {w : World} {s : Sl} {l : List Int} (h : RdI w s l) : s.n ≤ s.c := by rw [h.len]; exact h.le
theorem code88 : Try.f88.body = some (Code.seq (cr Try.f88 0 false) (Code.seq (Code.seq (cr Try.f88 1 false) (Code.block 0 (Code.loop (Code.seq (Code.seq (cr Try.f88 2 false) (Code.cond (Operand.tmp 9) Code.skip (Code.exit 0))) (Code.seq (Code.block 1 (Code.seq (cr Try.f88 4 true) (Code.cond (Operand.tmp 29) (Code.seq (cr Try.f88 5 false) Code.ret) Code.skip))) (cr Try.f88 3 false)))))) (Code.seq (cr Try.f88 6 false) Code.ret))) := by kernel_rfl
theorem order_sat {w0 w : World} {Rs : List Asn} {rt : Sl} {tl : List Int} {n9 : Int} {n : Nat} (hS : Sat w0 w Rs) (hrt : RdI w0 rt tl) (hn9 : n9 = (n : Int)) (hnb : n ≤ 1048576) :
  Calls Try.prog 88 #[.slice rt.A rt.n rt.c, .int .i64 n9] w (Ret fun r w' => r = .bool (ordB tl n) ∧ Sat w0 w' Rs) := by
 have hln := hrt.len
 have hbig := hrt.big
 refine enter (n := 34) Try.func88 code88 (by kernel_rfl) (Nat.le_of_ble_eq_true rfl) (fun a ha => ?_)
 replace ha : Has 34 [(0, .slice rt.A rt.n rt.c), (1, iv n9)] a := ha
 refine wp_seq (jX [0] (jY [(0, 4, .bool false)] ha fun a ha => ?_))
 refine jZ (jJ (wp_seq (wp_seq (jX [0] (jY [(0, 5, iv 0)] ha fun a ha => ?_)))))
 refine jZ (jJ (wp_block ?_))
 refine wp_loop_ghost (fun n_ a_ w_ => ∃ (i : Nat), n_ = tl.length - i ∧ (i ≤ tl.length) ∧ ((tl.take i).Nodup) ∧ (∀ x ∈ tl.take i, 0 ≤ x ∧ x < n9) ∧ Has 34 [(0, .slice rt.A rt.n rt.c), (1, iv n9), (4, .bool false), (5, iv (i : Int))] a_ ∧ Sat w0 w_ (Rs)) _ ⟨0, rfl, Nat.zero_le _, List.nodup_nil, (fun x hx => absurd hx List.not_mem_nil), ha.keeps [0, 1, 4, 5] _ rfl, hS⟩ ?_
 rintro n_ a w ⟨i, rfl, hi, hnd, hrg, ha, hS⟩
 refine wp_seq (wp_seq (jX [0, 1, 2, 3] (jY [(0, 6, iv (i : Int)), (1, 7, .slice rt.A rt.n rt.c), (2, 8, iv (rt.n : Int)), (3, 9, .bool (decide ((i : Int) < (rt.n : Int))))] ha fun a ha => ?_)))
 refine jZ (jJ ?_)
 by_cases c1 : (i : Int) < (rt.n : Int)
 ·
  have hil : i < tl.length := by omega
  obtain ⟨x9, hx9⟩ : ∃ x, tl[i]? = some x := ⟨_, List.getElem?_eq_getElem hil⟩
  refine jH ha rfl (decide_eq_true c1) ?_
  refine wp_skip (jJ (wp_seq (wp_block (wp_seq (yX 18 18 (hS.pickN 0 []) hS fun w hS => ?_)))))
  refine qY (k := 16) [(0, 12, .slice rt.A rt.n rt.c), (1, 13, iv (i : Int))] ha (.inr (hS.pickN 0 [])) fun a ha => ?_
  refine xG 2 (.pointer (some ⟨bk rt, of_ rt + i * 1, none⟩)) ha (qV (el := 3) (sz := 1) (j := i) ha (xX (t := 44) (x := 12) (y := 13) (d := 14)) rfl rfl (by kernel_rfl) (by kernel_rfl) ((hrt.sat hS).at_ ((List.getElem?_eq_some_iff.1 hx9).1)).1 (by rw [((hrt.sat hS)).len]; exact (List.getElem?_eq_some_iff.1 hx9).1)) (.inr (hS.pickN 0 [])) fun a ha => ?_
  refine yV 3 (iv x9) ha (qW (p := ⟨bk rt, of_ rt + i * 1, none⟩) ha (xZ (t := 3) (x := 14) (d := 15) (ty := 3)) rfl (by kernel_rfl) (fun w' hw => by rw [Nat.mul_one, ← getD_at hx9]; exact ((hrt.sat hw).at_ ((List.getElem?_eq_some_iff.1 hx9).1)).2)) (hS.pickN 0 []) fun a ha => ?_
  refine qY (k := 13) [(4, 16, iv n9)] ha (.inr (hS.pickN 0 [])) fun a ha => ?_
  refine zY 5 17 (n9 - 1) ha (.inr (hS.pickN 0 [])) fun a ha => ?_
  refine xH 6 (qX 18 (vs := [iv x9, iv 0, iv (n9 - 1)]) ha (q_in hS _ _ _) fun v2 w a hp3 ha => ?_)
  obtain ⟨rfl, hS⟩ := hp3
  refine ⟨.inr (hS.pickN 0 []), ?_⟩
  refine qY (k := 9) [(7, 19, .bool (!((inB x9 0 (n9 - 1))))), (8, 20, .bool (!((inB x9 0 (n9 - 1)))))] ha (.inr (hS.pickN 0 [])) fun a ha => ?_
  rcases Bool.eq_false_or_eq_true (inB x9 0 (n9 - 1)) with c4 | c4
  ·
   replace ha := ha.turn 18 (.bool true) rfl (congrArg Value.bool c4);replace ha := ha.turn 19 (.bool false) rfl (congrArg Value.bool (xY c4));replace ha := ha.turn 20 (.bool false) rfl (congrArg Value.bool (xY c4));refine qY (k := 7) [(9, 21, .slice rt.A rt.n rt.c), (10, 22, iv (i : Int))] ha (.inr (hS.pickN 0 [])) fun a ha => ?_;refine xG 11 (.slice rt.A i rt.c) ha (v_takeZ (el := 3) (j := i) ha (AtG.here (gd := 20) ⟨(by kernel_rfl : ((jK Try.f88 4)[11]?).map spec = some ((Op.slice 44 (Operand.tmp 21) none (some (Operand.tmp 22)) none), some 23, 44, some (8, false))), by kernel_rfl⟩ ha rfl) rfl rfl (by kernel_rfl) (by kernel_rfl) rfl (by omega) (rdi_lec hrt)) (.inr (hS.pickN 0 [])) fun a ha => ?_;refine qY (k := 4) [(12, 24, .slice rt.A rt.n rt.c), (13, 25, iv (i : Int))] ha (.inr (hS.pickN 0 [])) fun a ha => ?_;refine xG 14 (.pointer (some ⟨bk rt, of_ rt + i * 1, none⟩)) ha (qV (el := 3) (sz := 1) (j := i) ha (AtG.here (gd := 20) ⟨(by kernel_rfl : ((jK Try.f88 4)[14]?).map spec = some ((Op.indexAddr 44 (Operand.tmp 24) (Operand.tmp 25)), some 26, 0, some (8, false))), by kernel_rfl⟩ ha rfl) rfl rfl (by kernel_rfl) (by kernel_rfl) ((hrt.sat hS).at_ ((List.getElem?_eq_some_iff.1 hx9).1)).1 (by rw [((hrt.sat hS)).len]; exact (List.getElem?_eq_some_iff.1 hx9).1)) (.inr (hS.pickN 0 [])) fun a ha => ?_;refine yV 15 (iv x9) ha (qW (p := ⟨bk rt, of_ rt + i * 1, none⟩) ha (AtG.here (gd := 20) ⟨(by kernel_rfl : ((jK Try.f88 4)[15]?).map spec = some ((Op.load 3 (Operand.tmp 26)), some 27, 3, some (8, false))), by kernel_rfl⟩ ha rfl) rfl (by kernel_rfl) (fun w' hw => by rw [Nat.mul_one, ← getD_at hx9]; exact ((hrt.sat hw).at_ ((List.getElem?_eq_some_iff.1 hx9).1)).2)) (hS.pickN 0 []) fun a ha => ?_;refine xH 16 (qX 28 (vs := [.slice rt.A i rt.c, iv x9]) ha (bhas_sat (se := ⟨rt.A, i, rt.c⟩) hS ((hrt.sat hS).take hi)) fun v5 w a hp6 ha => ?_);obtain ⟨rfl, hS⟩ := hp6;refine ⟨.inr (hS.pickN 0 []), ?_⟩;refine qY (k := 0) [(17, 29, .bool ((tl.take i).contains x9))] ha (.inr (hS.pickN 0 [])) fun a ha => ?_;refine yY (jJ ?_)
   rcases Bool.eq_false_or_eq_true ((tl.take i).contains x9) with c7 | c7
   ·
    refine jH ha rfl c7 ?_;refine wp_seq (jX [0] (jY [(0, 4, .bool false)] ha fun a ha => ?_));refine jZ (jJ (wp_ret (in_r (qZ (qZ (in_r (qZ (qJ ha (by kernel_rfl) (qU (t := 4) ha rfl) ?_))))))));obtain rfl : n9 = (n : Int) := hn9;have hE : ordB tl n = false := ordB_bad2 hx9 (List.contains_iff_mem.1 c7);rw [hE];exact ⟨rfl, hS⟩
   refine jU ha rfl c7 ?_;refine wp_skip (in_n (jJ (jX [0, 1, 2] (jY [(0, 10, iv (i : Int))] ha fun a ha => ?_))));refine xQ 11 ((i : Int) + 1) ha fun a ha => ?_;refine jY [(2, 5, iv ((i : Int) + 1))] ha fun a ha => ?_;refine jZ (jJ ?_);have hxr : 0 ≤ x9 ∧ x9 < n9 := by have h9 : 0 ≤ x9 ∧ x9 ≤ n9 - 1 := (by simpa only [inB, Bool.and_eq_true, decide_eq_true_eq] using c4); omega
   exact ⟨_, by omega, i + 1, rfl, hil, (by rw [take_next' hx9]; exact nodup_snoc hnd c7), (fun x hx => by rw [take_next' hx9] at hx; rcases List.mem_append.1 hx with hx | hx; exact hrg x hx; rw [List.mem_singleton.1 hx]; exact hxr), ha.keeps [0, 1, 4, 5] _ rfl, hS⟩
  replace ha := ha.turn 18 (.bool false) rfl (congrArg Value.bool c4)
  replace ha := ha.turn 19 (.bool true) rfl (congrArg Value.bool (xV c4))
  replace ha := ha.turn 20 (.bool true) rfl (congrArg Value.bool (xV c4))
  refine qY (k := 0) [(9, 21, undef), (10, 22, undef), (11, 23, undef), (12, 24, undef), (13, 25, undef), (14, 26, undef), (15, 27, undef), (16, 28, undef), (17, 29, .bool true)] ha (.inr (hS.pickN 0 [])) fun a ha => ?_
  refine yY (jJ ?_)
  refine jH ha rfl rfl ?_
  refine wp_seq (jX [0] (jY [(0, 4, .bool false)] ha fun a ha => ?_))
  refine jZ (jJ (wp_ret (in_r (qZ (qZ (in_r (qZ (qJ ha (by kernel_rfl) (qU (t := 4) ha rfl) ?_))))))))
  obtain rfl : n9 = (n : Int) := hn9
  have hE : ordB tl n = false := ordB_bad1 (List.mem_of_getElem? hx9) (fun k9 => by have h9 := c4; simp only [inB, Bool.and_eq_false_iff, decide_eq_false_iff_not] at h9; omega)
  rw [hE]
  exact ⟨rfl, hS⟩
 refine jU ha rfl (decide_eq_false c1) ?_
 refine wp_exit (qQ (qQ (in_x (jJ (wp_seq (jX [0, 1, 2, 3, 4] (jY [(0, 30, .slice rt.A rt.n rt.c), (1, 31, iv (rt.n : Int)), (2, 32, iv n9), (3, 33, .bool (decide ((rt.n : Int) = n9))), (4, 4, .bool (decide ((rt.n : Int) = n9)))] ha fun a ha => ?_)))))))
 refine jZ (jJ (wp_ret (qJ ha (by kernel_rfl) (qU (t := 4) ha rfl) ?_)))
 obtain rfl : n9 = (n : Int) := hn9
 have hie : i = tl.length := by omega
 rw [hie, List.take_length] at hnd hrg
 have hE : ordB tl n = decide ((rt.n : Int) = (n : Int)) := by rw [ordB_end hnd hrg]; exact decide_eq_decide.2 (by omega)
 rw [hE]
 exact ⟨rfl, hS⟩
theorem encS3_snoc3' (l : List ST) (x : ST) : encS3 l ++ [.int .i64 x.f0, .int .i64 x.f1, .int .i64 x.f2] = encS3 (l ++ [x]) := by simp [encS3, cT]
theorem code70 : Try.f70.body = some (Code.seq (cr Try.f70 0 false) (Code.seq (cr Try.f70 1 false) (Code.seq (Code.seq (cr Try.f70 2 false) (Code.block 0 (Code.loop (Code.seq (Code.seq (cr Try.f70 3 false) (Code.cond (Operand.tmp 15) Code.skip (Code.exit 0))) (Code.seq (Code.block 1 (cr Try.f70 5 false)) (cr Try.f70 4 false)))))) (Code.seq (cr Try.f70 6 false) (Code.seq (Code.seq (cr Try.f70 7 false) (Code.block 2 (Code.loop (Code.seq (Code.seq (cr Try.f70 8 false) (Code.cond (Operand.tmp 31) Code.skip (Code.exit 2))) (Code.seq (Code.block 3 (Code.seq (Code.seq (cr Try.f70 10 false) (Code.cond (Operand.tmp 38) (Code.exit 3) Code.skip)) (Code.seq (cr Try.f70 11 false) (Code.seq (Code.seq (cr Try.f70 12 false) (Code.block 4 (Code.loop (Code.seq (Code.seq (cr Try.f70 13 false) (Code.cond (Operand.tmp 47) Code.skip (Code.exit 4))) (Code.seq (Code.block 5 (Code.seq (cr Try.f70 15 false) (Code.seq (Code.seq (cr Try.f70 16 false) (Code.cond (Operand.tmp 65) (cr Try.f70 17 false) Code.skip)) (cr Try.f70 18 false)))) (cr Try.f70 14 false)))))) (cr Try.f70 19 true))))) (cr Try.f70 9 false)))))) (Code.seq (cr Try.f70 20 false) Code.ret)))))) := by kernel_rfl
theorem numQ_sat0 {w0 : World} {s0 rt : Sl} {l : List (List ST)} {tl : List Int} (hr : RdP w0 s0 l) (hf : Fits l) (hpg : programB l = true) (hrt : RdI w0 rt tl) (htn : tl.length = l.length) (hrg : ∀ x ∈ tl, -1 ≤ x ∧ x < 1048576) :
  Calls Try.prog 70 #[.agg #[.slice s0.A s0.n s0.c], .slice rt.A rt.n rt.c] w0 (Ret fun r w' => ∃ s : Sl, r = .agg #[s.v] ∧ Sat w0 w' [prg w0.heap.size s (numP l tl)]) := by
 have hS : Sat w0 w0 [] := Sat.start w0
 have hln := hrt.len
 have hlen := hf.len
 refine enter (n := 85) Try.func70 code70 (by kernel_rfl) (Nat.le_of_ble_eq_true rfl) (fun a ha => ?_)
 replace ha : Has 85 [(0, .agg #[.slice s0.A s0.n s0.c]), (1, .slice rt.A rt.n rt.c)] a := ha
 refine wp_seq (jX [0, 1] (jV (qH 2 [.slice s0.A s0.n s0.c] 30 (ptr · 0) ha hS fun b1 w a hb2 hS ha => ?_)))
 refine jV (qH 4 [.slice none 0 0] 30 (ptr · 0) ha hS fun b3 w a hb4 hS ha => ?_)
 refine jZ (jJ (wp_seq (jX [0] (jY [(0, 5, iv 0)] ha fun a ha => ?_))))
 refine jZ (jJ (wp_seq (wp_seq (jX [0] (jY [(0, 6, iv 0)] ha fun a ha => ?_)))))
 refine jZ (jJ (wp_block ?_))
 replace hS : Sat w0 w ((SX.blk b3 [.slice none 0 0] 30) :: (SX.blk b1 [.slice s0.A s0.n s0.c] 30) :: []) := hS
 refine wp_loop_ghost (fun n_ a_ w_ => ∃ (j : Nat) (m : Int), n_ = tl.length - j ∧ (j ≤ tl.length) ∧ (m = manyP (tl.take j)) ∧ (0 ≤ m ∧ m ≤ 1048576) ∧ Has 85 [(1, .slice rt.A rt.n rt.c), (2, ptr b1 0), (4, ptr b3 0), (5, iv m), (6, iv (j : Int))] a_ ∧ Sat w0 w_ ((SX.blk b3 [.slice none 0 0] 30) :: (SX.blk b1 [.slice s0.A s0.n s0.c] 30) :: [])) _ ⟨0, 0, rfl, Nat.zero_le _, rfl, ⟨Int.le_refl _, by omega⟩, ha.keeps [1, 2, 4, 5, 6] _ rfl, hS⟩ ?_
 rintro n_ a w ⟨j, m, rfl, hi, hm, hm1, ha, hS⟩
 refine wp_seq (wp_seq (jX [0, 1, 2, 3] (jY [(0, 12, iv (j : Int)), (1, 13, .slice rt.A rt.n rt.c), (2, 14, iv (rt.n : Int)), (3, 15, .bool (decide ((j : Int) < (rt.n : Int))))] ha fun a ha => ?_)))
 refine jZ (jJ ?_)
 by_cases c5 : (j : Int) < (rt.n : Int)
 ·
  have hjl : j < tl.length := by omega
  obtain ⟨x9, hx9⟩ : ∃ x, tl[j]? = some x := ⟨_, List.getElem?_eq_getElem hjl⟩
  have hrx := hrg x9 (List.mem_of_getElem? hx9)
  refine jH ha rfl (decide_eq_true c5) ?_
  refine wp_skip (jJ (wp_seq (wp_block (jX [0, 1, 2, 3, 4, 5, 6, 7] (jY [(0, 18, iv m), (1, 19, .slice rt.A rt.n rt.c), (2, 20, iv (j : Int))] ha fun a ha => ?_)))))
  refine qK (.pointer (some ⟨bk rt, of_ rt + j * 1, none⟩)) ha (qV (el := 3) (sz := 1) (j := j) ha (xX (t := 44) (x := 19) (y := 20) (d := 21)) rfl rfl (by kernel_rfl) (by kernel_rfl) ((hrt.sat hS).at_ ((List.getElem?_eq_some_iff.1 hx9).1)).1 (by rw [((hrt.sat hS)).len]; exact (List.getElem?_eq_some_iff.1 hx9).1)) fun a ha => ?_
  refine qK (iv x9) ha (qW (p := ⟨bk rt, of_ rt + j * 1, none⟩) ha (xZ (t := 3) (x := 21) (d := 22) (ty := 3)) rfl (by kernel_rfl) (fun w' hw => by rw [hw, Nat.mul_one, ← getD_at hx9]; exact ((hrt.sat hS).at_ ((List.getElem?_eq_some_iff.1 hx9).1)).2)) fun a ha => ?_
  refine xQ 23 (x9 + 1) ha fun a ha => ?_
  refine jV (qX 24 (vs := [iv m, iv (x9 + 1)]) ha (most_sat hS _ _) fun v6 w a hp7 ha => ?_)
  obtain ⟨rfl, hS⟩ := hp7
  refine jY [(7, 5, iv (max m (x9 + 1)))] ha fun a ha => ?_
  refine jZ (in_n (jJ (jX [0, 1, 2] (jY [(0, 16, iv (j : Int))] ha fun a ha => ?_))))
  refine xQ 17 ((j : Int) + 1) ha fun a ha => ?_
  refine jY [(2, 6, iv ((j : Int) + 1))] ha fun a ha => ?_
  refine jZ (jJ ?_)
  replace hS : Sat w0 w ((SX.blk b3 [.slice none 0 0] 30) :: (SX.blk b1 [.slice s0.A s0.n s0.c] 30) :: []) := hS
  exact ⟨_, by omega, j + 1, max m (x9 + 1), rfl, hjl, (by rw [many_take hx9, hm]), ⟨by omega, by omega⟩, ha.keeps [1, 2, 4, 5, 6] _ rfl, hS⟩
 refine jU ha rfl (decide_eq_false c5) ?_
 refine wp_exit (qQ (qQ (in_x (jJ (wp_seq ?_)))))
 have hie : j = tl.length := by omega
 rw [hie, List.take_length] at hm
 obtain ⟨mm, rfl⟩ : ∃ q : Nat, m = (q : Int) := ⟨m.toNat, by omega⟩
 refine jX [0, 1, 2, 3, 4] (jY [(0, 25, iv (mm : Int))] ha fun a ha => ?_)
 refine jV (o_makeR (enc := cSl) (x0 := ⟨none, 0, 0⟩) (z := .slice none 0 0) (m := mm) (bytes := 24) (el := 70) ha (by decide) (yG (op := (Op.makeSlice 28 (Operand.tmp 25) (Operand.tmp 25))) (d := some 26) (ty := 28)) rfl rfl (by kernel_rfl) (by kernel_rfl) rfl cSl_len (by decide) (by decide) (by omega) hS fun s1 w a hsn1 hS ha => ?_)
 replace hS := prgNew (s := s1) (m := mm) hS
 refine jY [(2, 27, .agg #[.slice s1.A s1.n s1.c])] ha fun a ha => ?_
 refine jV (qH 7 [.slice none 0 0] 30 (ptr · 0) ha hS fun b8 w a hb9 hS ha => ?_)
 refine jV (o_sa 0 ha (xW (t := 30) (x := 7) (y := 27)) hS fun w a hS ha => ?_)
 refine jZ (jJ (wp_seq (wp_seq (jX [0] (jY [(0, 8, iv 0)] ha fun a ha => ?_)))))
 refine jZ (jJ (wp_block ?_))
 replace hS := hS.pickN 4 [1, 0, 2, 3]
 replace hS : Sat w0 w ((prg w0.heap.size s1 (numN l tl 0)) :: (SX.blk b8 [.slice s1.A s1.n s1.c] 30) :: (SX.blk b3 [.slice none 0 0] 30) :: (SX.blk b1 [.slice s0.A s0.n s0.c] 30) :: []) := by rw [show numN l tl 0 = List.replicate mm [] by unfold numN; congr 1; omega]; exact hS
 refine wp_loop_ghost (fun n_ a_ w_ => ∃ (i : Nat), n_ = tl.length - i ∧ (i ≤ tl.length) ∧ Has 85 [(1, .slice rt.A rt.n rt.c), (2, ptr b1 0), (4, ptr b3 0), (7, ptr b8 0), (8, iv (i : Int))] a_ ∧ Sat w0 w_ ((prg w0.heap.size s1 (numN l tl i)) :: (SX.blk b8 [.slice s1.A s1.n s1.c] 30) :: (SX.blk b3 [.slice none 0 0] 30) :: (SX.blk b1 [.slice s0.A s0.n s0.c] 30) :: [])) _ ⟨0, rfl, Nat.zero_le _, ha.keeps [1, 2, 4, 7, 8] _ rfl, hS⟩ ?_
 rintro n_ a w ⟨i, rfl, hi, ha, hS⟩
 refine wp_seq (wp_seq (jX [0, 1, 2, 3] (jY [(0, 28, iv (i : Int)), (1, 29, .slice rt.A rt.n rt.c), (2, 30, iv (rt.n : Int)), (3, 31, .bool (decide ((i : Int) < (rt.n : Int))))] ha fun a ha => ?_)))
 refine jZ (jJ ?_)
 by_cases c10 : (i : Int) < (rt.n : Int)
 ·
  have hil : i < tl.length := by omega
  obtain ⟨x9, hx9⟩ : ∃ x, tl[i]? = some x := ⟨_, List.getElem?_eq_getElem hil⟩
  have hrx := hrg x9 (List.mem_of_getElem? hx9)
  refine jH ha rfl (decide_eq_true c10) ?_
  refine wp_skip (jJ (wp_seq (wp_block (wp_seq (wp_seq (jX [0, 1, 2, 3, 4] (jY [(0, 34, .slice rt.A rt.n rt.c), (1, 35, iv (i : Int))] ha fun a ha => ?_)))))))
  refine qK (.pointer (some ⟨bk rt, of_ rt + i * 1, none⟩)) ha (qV (el := 3) (sz := 1) (j := i) ha (xX (t := 44) (x := 34) (y := 35) (d := 36)) rfl rfl (by kernel_rfl) (by kernel_rfl) ((hrt.sat hS).at_ ((List.getElem?_eq_some_iff.1 hx9).1)).1 (by rw [((hrt.sat hS)).len]; exact (List.getElem?_eq_some_iff.1 hx9).1)) fun a ha => ?_
  refine qK (iv x9) ha (qW (p := ⟨bk rt, of_ rt + i * 1, none⟩) ha (xZ (t := 3) (x := 36) (d := 37) (ty := 3)) rfl (by kernel_rfl) (fun w' hw => by rw [hw, Nat.mul_one, ← getD_at hx9]; exact ((hrt.sat hS).at_ ((List.getElem?_eq_some_iff.1 hx9).1)).2)) fun a ha => ?_
  refine jY [(4, 38, .bool (decide (x9 < 0)))] ha fun a ha => ?_
  refine jZ (jJ ?_)
  by_cases c11 : x9 < 0
  ·
   refine jH ha rfl (decide_eq_true c11) ?_;refine wp_exit (qQ (in_x (jJ (jX [0, 1, 2] (jY [(0, 32, iv (i : Int))] ha fun a ha => ?_)))));refine xQ 33 ((i : Int) + 1) ha fun a ha => ?_;refine jY [(2, 8, iv ((i : Int) + 1))] ha fun a ha => ?_;refine jZ (jJ ?_);replace hS : Sat w0 w ((prg w0.heap.size s1 (numN l tl i)) :: (SX.blk b8 [.slice s1.A s1.n s1.c] 30) :: (SX.blk b3 [.slice none 0 0] 30) :: (SX.blk b1 [.slice s0.A s0.n s0.c] 30) :: []) := hS;replace hS : Sat w0 w ((prg w0.heap.size s1 (numN l tl (i + 1))) :: (SX.blk b8 [.slice s1.A s1.n s1.c] 30) :: (SX.blk b3 [.slice none 0 0] 30) :: (SX.blk b1 [.slice s0.A s0.n s0.c] 30) :: []) := by rw [numN_neg hx9 c11]; exact hS
   exact ⟨_, by omega, i + 1, rfl, hil, ha.keeps [1, 2, 4, 7, 8] _ rfl, hS⟩
  obtain ⟨b, hb⟩ : ∃ b, l[i]? = some b := ⟨_, List.getElem?_eq_getElem (by omega)⟩
  have hb1 : b.length ≤ 1048576 := hf.each b (List.mem_of_getElem? hb)
  obtain ⟨hA0, sb, hcb, hrb⟩ := body_rd hr hb
  have hsb := hrb.len
  refine jU ha rfl (decide_eq_false c11) ?_
  refine wp_skip (jJ (wp_seq (jX [0, 1] (jV (qH 39 [] 72 (fun b => .slice (some ⟨b, 0, none⟩) 0 0) ha hS fun b12 w a hb13 hS ha => ?_)))))
  refine jY [(1, 9, .slice (some ⟨b12, 0, none⟩) 0 0)] ha fun a ha => ?_
  refine jZ (jJ (wp_seq (wp_seq (jX [0] (jY [(0, 10, iv 0)] ha fun a ha => ?_)))))
  refine jZ (jJ (wp_block ?_))
  replace hS := hS.blk0 3 0 rfl
  replace hS : Sat w0 w ((SX.row (.slice ((⟨some ⟨b12, 0, none⟩, 0, 0⟩ : Sl).A) ((⟨some ⟨b12, 0, none⟩, 0, 0⟩ : Sl).n) ((⟨some ⟨b12, 0, none⟩, 0, 0⟩ : Sl).c)) 72 3 (encS3 [])) :: (prg w0.heap.size s1 (numN l tl i)) :: (SX.blk b8 [.slice s1.A s1.n s1.c] 30) :: (SX.blk b3 [.slice none 0 0] 30) :: (SX.blk b1 [.slice s0.A s0.n s0.c] 30) :: []) := hS
  replace hS : Sat w0 w ((SX.row (.slice ((⟨some ⟨b12, 0, none⟩, 0, 0⟩ : Sl).A) ((⟨some ⟨b12, 0, none⟩, 0, 0⟩ : Sl).n) ((⟨some ⟨b12, 0, none⟩, 0, 0⟩ : Sl).c)) 72 3 (encS3 ((b.take 0).map (renS (toG tl))))) :: (prg w0.heap.size s1 (numN l tl i)) :: (SX.blk b8 [.slice s1.A s1.n s1.c] 30) :: (SX.blk b3 [.slice none 0 0] 30) :: (SX.blk b1 [.slice s0.A s0.n s0.c] 30) :: []) := hS
  refine wp_loop_ghost (fun n_ a_ w_ => ∃ (k : Nat) (bd : Sl), n_ = b.length - k ∧ (k ≤ b.length) ∧ Has 85 [(1, .slice rt.A rt.n rt.c), (2, ptr b1 0), (4, ptr b3 0), (7, ptr b8 0), (8, iv (i : Int)), (28, iv (i : Int)), (29, .slice rt.A rt.n rt.c), (30, iv (rt.n : Int)), (31, .bool (decide ((i : Int) < (rt.n : Int)))), (34, .slice rt.A rt.n rt.c), (35, iv (i : Int)), (36, .pointer (some ⟨bk rt, of_ rt + i * 1, none⟩)), (37, iv x9), (38, .bool (decide (x9 < 0))), (39, .slice (some ⟨b12, 0, none⟩) 0 0), (9, .slice bd.A bd.n bd.c), (10, iv (k : Int))] a_ ∧ Sat w0 w_ ((SX.row (.slice bd.A bd.n bd.c) 72 3 (encS3 ((b.take k).map (renS (toG tl))))) :: (prg w0.heap.size s1 (numN l tl i)) :: (SX.blk b8 [.slice s1.A s1.n s1.c] 30) :: (SX.blk b3 [.slice none 0 0] 30) :: (SX.blk b1 [.slice s0.A s0.n s0.c] 30) :: [])) _ ⟨0, ⟨some ⟨b12, 0, none⟩, 0, 0⟩, rfl, Nat.zero_le _, ha.keeps [1, 2, 4, 7, 8, 28, 29, 30, 31, 34, 35, 36, 37, 38, 39, 9, 10] _ rfl, hS⟩ ?_
  rintro n_ a w ⟨k, bd, rfl, hk, ha, hS⟩
  refine wp_seq (wp_seq (jX [0, 1, 2, 3, 4, 5, 6, 7] (jY [(0, 40, iv (k : Int)), (1, 41, ptr b1 0)] ha fun a ha => ?_)))
  refine qG (d := 42) (b := b1) (j := 0) ha (hS.blk 4 rfl) rfl fun a ha => ?_
  refine jY [(3, 43, iv (i : Int))] ha fun a ha => ?_
  refine qK (.pointer (some ⟨bk s0, of_ s0 + i * 1, none⟩)) ha (qV (s := s0) (el := 70) (sz := 1) (j := i) ha (xX (t := 28) (x := 42) (y := 43) (d := 44)) rfl rfl (by kernel_rfl) (by kernel_rfl) hA0 (by rw [hr.len]; omega)) fun a ha => ?_
  refine qK (.slice sb.A sb.n sb.c) ha (qW (p := ⟨bk s0, of_ s0 + i * 1, none⟩) ha (xZ (t := 70) (x := 44) (d := 45) (ty := 70)) rfl (by kernel_rfl) (fun w' hw => by rw [hw]; rw [Nat.mul_one]; exact pw_cell_below hS.below hcb)) fun a ha => ?_
  refine jY [(6, 46, iv (sb.n : Int)), (7, 47, .bool (decide ((k : Int) < (sb.n : Int))))] ha fun a ha => ?_
  refine jZ (jJ ?_)
  by_cases c14 : (k : Int) < (sb.n : Int)
  ·
   have hkl : k < b.length := by omega
   obtain ⟨x, hx⟩ : ∃ x, b[k]? = some x := ⟨_, List.getElem?_eq_getElem hkl⟩;refine jH ha rfl (decide_eq_true c14) ?_;refine wp_skip (jJ (wp_seq (wp_block (wp_seq (jX [0, 1, 2, 3, 4, 5, 6, 7, 8, 9] (jY [(0, 50, ptr b1 0)] ha fun a ha => ?_))))));refine qG (d := 51) (b := b1) (j := 0) ha (hS.blk 4 rfl) rfl fun a ha => ?_;refine jY [(2, 52, iv (i : Int))] ha fun a ha => ?_;refine qK (.pointer (some ⟨bk s0, of_ s0 + i * 1, none⟩)) ha (qV (s := s0) (el := 70) (sz := 1) (j := i) ha (xX (t := 28) (x := 51) (y := 52) (d := 53)) rfl rfl (by kernel_rfl) (by kernel_rfl) hA0 (by rw [hr.len]; omega)) fun a ha => ?_;refine qK (.slice sb.A sb.n sb.c) ha (qW (p := ⟨bk s0, of_ s0 + i * 1, none⟩) ha (xZ (t := 70) (x := 53) (d := 54) (ty := 70)) rfl (by kernel_rfl) (fun w' hw => by rw [hw]; rw [Nat.mul_one]; exact pw_cell_below hS.below hcb)) fun a ha => ?_;refine jY [(5, 55, iv (k : Int))] ha fun a ha => ?_;refine qK (.pointer (some ⟨bk sb, of_ sb + k * 3, none⟩)) ha (xK (el := 72) (sz := 3) (j := k) ha (xX (t := 70) (x := 54) (y := 55) (d := 56)) rfl rfl (by kernel_rfl) (by kernel_rfl) (RdE.at_ (hrb.sat hS) _ _ hx).1 (rfl) (by rw [((hrb.sat hS)).len]; exact (List.getElem?_eq_some_iff.1 hx).1)) fun a ha => ?_;refine qK (.agg #[iv x.f0, iv x.f1, iv x.f2]) ha (v_loadE (b := bk sb) (f := of_ sb + k * 3) (vs := [iv x.f0, iv x.f1, iv x.f2]) ha (xZ (t := 72) (x := 56) (d := 57) (ty := 72)) rfl (by kernel_rfl) (fun w' hw o u hu => by rw [hw]; exact (RdE.at_ (hrb.sat hS) _ _ hx).2 o u hu)) fun a ha => ?_;refine jV (qH 11 [iv 0, iv 0, iv 0] 72 (ptr · 0) ha hS fun b15 w a hb16 hS ha => ?_);refine jV (o_sa 0 ha (xW (t := 72) (x := 11) (y := 57)) hS fun w a hS ha => ?_);refine jZ (jJ (wp_seq (wp_seq (jX [0, 1, 2, 3, 4, 5, 6, 7] (jY [(0, 58, ptr b15 0)] ha fun a ha => ?_)))));refine qG (d := 59) (b := b15) (j := 0) ha (hS.blk 0 rfl) rfl fun a ha => ?_;refine jY [(2, 60, .bool (decide (x.f0 = 4))), (3, 61, .bool (decide (x.f0 = 4)))] ha fun a ha => ?_
   by_cases c17 : x.f0 = 4
   ·
    replace ha := ha.turn 60 (.bool true) rfl (congrArg Value.bool (decide_eq_true c17));replace ha := ha.turn 61 (.bool true) rfl (congrArg Value.bool (decide_eq_true c17));refine jY [(4, 62, undef), (5, 63, undef), (6, 64, undef), (7, 65, .bool true)] ha fun a ha => ?_;refine jZ (jJ ?_);refine jH ha rfl rfl ?_;have hix := okC_of hpg (List.mem_of_getElem? hb) x (List.mem_of_getElem? hx) (.inl c17);rw [← htn] at hix;refine jX [0, 1, 2, 3, 4, 5, 6] (jY [(0, 66, .slice rt.A rt.n rt.c), (1, 67, ptr b15 1)] ha fun a ha => ?_);refine qG (d := 68) (b := b15) (j := 1) ha (hS.blk 0 rfl) rfl fun a ha => ?_;refine qK (.pointer (some ⟨bk rt, of_ rt + x.f1.toNat * 1, none⟩)) ha (xK (el := 3) (sz := 1) (j := x.f1.toNat) ha (xX (t := 44) (x := 66) (y := 68) (d := 69)) rfl rfl (by kernel_rfl) (by kernel_rfl) ((hrt.sat hS).at_ (show x.f1.toNat < tl.length by omega)).1 ((Int.toNat_of_nonneg hix.1).symm) (by rw [((hrt.sat hS)).len]; exact (show x.f1.toNat < tl.length by omega))) fun a ha => ?_;refine qK (iv (tl.getD x.f1.toNat 0)) ha (qW (p := ⟨bk rt, of_ rt + x.f1.toNat * 1, none⟩) ha (xZ (t := 3) (x := 69) (d := 70) (ty := 3)) rfl (by kernel_rfl) (fun w' hw => by rw [hw, Nat.mul_one]; exact ((hrt.sat hS).at_ (show x.f1.toNat < tl.length by omega)).2)) fun a ha => ?_;refine jY [(5, 71, ptr b15 1)] ha fun a ha => ?_;refine jV (zV b15 1 (iv (tl.getD x.f1.toNat 0)) 0 ha hS rfl rfl fun w a hS ha => ?_);refine jZ (jJ (jX [0, 1, 2, 3, 4] (jY [(0, 72, .slice bd.A bd.n bd.c)] ha fun a ha => ?_)));refine xJ 73 ha (hS.blk 0 rfl) fun a ha => ?_;refine jV (qH 74 [iv x.f0, iv (tl.getD x.f1.toNat 0), iv x.f2] 72 (fun b => .slice (some ⟨b, 0, none⟩) 1 1) ha hS fun b18 w a hb19 hS ha => ?_);refine jV (o_ap 75 2 0 (encS3 (((b.take k).map (renS (toG tl))) ++ [(⟨x.f0, tl.getD x.f1.toNat 0, x.f2⟩ : ST)])) ha hS rfl rfl (by rw [encS3_length, List.length_map, List.length_take]; simp only [List.length_cons, List.length_nil]; omega) (encS3_snoc3' _ (⟨x.f0, tl.getD x.f1.toNat 0, x.f2⟩ : ST)) fun s23 w a hS hn24 ha => ?_);refine jY [(4, 9, .slice s23.A s23.n s23.c)] ha fun a ha => ?_;refine jZ (in_n (jJ (jX [0, 1, 2] (jY [(0, 48, iv (k : Int))] ha fun a ha => ?_))));refine xQ 49 ((k : Int) + 1) ha fun a ha => ?_;refine jY [(2, 10, iv ((k : Int) + 1))] ha fun a ha => ?_;refine jZ (jJ ?_);replace hS := hS.pickN 7 [2, 3, 4, 5, 6];replace hS : Sat w0 w ((SX.row (.slice s23.A s23.n s23.c) 72 3 (encS3 ((b.take (k + 1)).map (renS (toG tl))))) :: (prg w0.heap.size s1 (numN l tl i)) :: (SX.blk b8 [.slice s1.A s1.n s1.c] 30) :: (SX.blk b3 [.slice none 0 0] 30) :: (SX.blk b1 [.slice s0.A s0.n s0.c] 30) :: []) := by rw [List.take_add_one, hx, List.map_append, show Option.toList (some x) = [x] from rfl, List.map_cons, List.map_nil, renS_yes (.inl c17)]; exact hS
    exact ⟨_, by omega, k + 1, s23, rfl, hkl, ha.keeps [1, 2, 4, 7, 8, 28, 29, 30, 31, 34, 35, 36, 37, 38, 39, 9, 10] _ rfl, hS⟩
   replace ha := ha.turn 60 (.bool false) rfl (congrArg Value.bool (decide_eq_false c17));replace ha := ha.turn 61 (.bool false) rfl (congrArg Value.bool (decide_eq_false c17));refine jY [(4, 62, ptr b15 0)] ha fun a ha => ?_;refine qG (d := 63) (b := b15) (j := 0) ha (hS.blk 0 rfl) rfl fun a ha => ?_;refine jY [(6, 64, .bool (decide (x.f0 = 5))), (7, 65, .bool (decide (x.f0 = 5)))] ha fun a ha => ?_;refine jZ (jJ ?_)
   by_cases c25 : x.f0 = 5
   ·
    refine jH ha rfl (decide_eq_true c25) ?_;have hix := okC_of hpg (List.mem_of_getElem? hb) x (List.mem_of_getElem? hx) (.inr c25);rw [← htn] at hix;refine jX [0, 1, 2, 3, 4, 5, 6] (jY [(0, 66, .slice rt.A rt.n rt.c), (1, 67, ptr b15 1)] ha fun a ha => ?_);refine qG (d := 68) (b := b15) (j := 1) ha (hS.blk 0 rfl) rfl fun a ha => ?_;refine qK (.pointer (some ⟨bk rt, of_ rt + x.f1.toNat * 1, none⟩)) ha (xK (el := 3) (sz := 1) (j := x.f1.toNat) ha (xX (t := 44) (x := 66) (y := 68) (d := 69)) rfl rfl (by kernel_rfl) (by kernel_rfl) ((hrt.sat hS).at_ (show x.f1.toNat < tl.length by omega)).1 ((Int.toNat_of_nonneg hix.1).symm) (by rw [((hrt.sat hS)).len]; exact (show x.f1.toNat < tl.length by omega))) fun a ha => ?_;refine qK (iv (tl.getD x.f1.toNat 0)) ha (qW (p := ⟨bk rt, of_ rt + x.f1.toNat * 1, none⟩) ha (xZ (t := 3) (x := 69) (d := 70) (ty := 3)) rfl (by kernel_rfl) (fun w' hw => by rw [hw, Nat.mul_one]; exact ((hrt.sat hS).at_ (show x.f1.toNat < tl.length by omega)).2)) fun a ha => ?_;refine jY [(5, 71, ptr b15 1)] ha fun a ha => ?_;refine jV (zV b15 1 (iv (tl.getD x.f1.toNat 0)) 0 ha hS rfl rfl fun w a hS ha => ?_);refine jZ (jJ (jX [0, 1, 2, 3, 4] (jY [(0, 72, .slice bd.A bd.n bd.c)] ha fun a ha => ?_)));refine xJ 73 ha (hS.blk 0 rfl) fun a ha => ?_;refine jV (qH 74 [iv x.f0, iv (tl.getD x.f1.toNat 0), iv x.f2] 72 (fun b => .slice (some ⟨b, 0, none⟩) 1 1) ha hS fun b26 w a hb27 hS ha => ?_);refine jV (o_ap 75 2 0 (encS3 (((b.take k).map (renS (toG tl))) ++ [(⟨x.f0, tl.getD x.f1.toNat 0, x.f2⟩ : ST)])) ha hS rfl rfl (by rw [encS3_length, List.length_map, List.length_take]; simp only [List.length_cons, List.length_nil]; omega) (encS3_snoc3' _ (⟨x.f0, tl.getD x.f1.toNat 0, x.f2⟩ : ST)) fun s31 w a hS hn32 ha => ?_);refine jY [(4, 9, .slice s31.A s31.n s31.c)] ha fun a ha => ?_;refine jZ (in_n (jJ (jX [0, 1, 2] (jY [(0, 48, iv (k : Int))] ha fun a ha => ?_))));refine xQ 49 ((k : Int) + 1) ha fun a ha => ?_;refine jY [(2, 10, iv ((k : Int) + 1))] ha fun a ha => ?_;refine jZ (jJ ?_);replace hS := hS.pickN 7 [2, 3, 4, 5, 6];replace hS : Sat w0 w ((SX.row (.slice s31.A s31.n s31.c) 72 3 (encS3 ((b.take (k + 1)).map (renS (toG tl))))) :: (prg w0.heap.size s1 (numN l tl i)) :: (SX.blk b8 [.slice s1.A s1.n s1.c] 30) :: (SX.blk b3 [.slice none 0 0] 30) :: (SX.blk b1 [.slice s0.A s0.n s0.c] 30) :: []) := by rw [List.take_add_one, hx, List.map_append, show Option.toList (some x) = [x] from rfl, List.map_cons, List.map_nil, renS_yes (.inr c25)]; exact hS
    exact ⟨_, by omega, k + 1, s31, rfl, hkl, ha.keeps [1, 2, 4, 7, 8, 28, 29, 30, 31, 34, 35, 36, 37, 38, 39, 9, 10] _ rfl, hS⟩
   refine jU ha rfl (decide_eq_false c25) ?_;refine wp_skip (jJ (jX [0, 1, 2, 3, 4] (jY [(0, 72, .slice bd.A bd.n bd.c)] ha fun a ha => ?_)));refine xJ 73 ha (hS.blk 0 rfl) fun a ha => ?_;refine jV (qH 74 [iv x.f0, iv x.f1, iv x.f2] 72 (fun b => .slice (some ⟨b, 0, none⟩) 1 1) ha hS fun b33 w a hb34 hS ha => ?_);refine jV (o_ap 75 2 0 (encS3 (((b.take k).map (renS (toG tl))) ++ [(⟨x.f0, x.f1, x.f2⟩ : ST)])) ha hS rfl rfl (by rw [encS3_length, List.length_map, List.length_take]; simp only [List.length_cons, List.length_nil]; omega) (encS3_snoc3' _ (⟨x.f0, x.f1, x.f2⟩ : ST)) fun s38 w a hS hn39 ha => ?_);refine jY [(4, 9, .slice s38.A s38.n s38.c)] ha fun a ha => ?_;refine jZ (in_n (jJ (jX [0, 1, 2] (jY [(0, 48, iv (k : Int))] ha fun a ha => ?_))));refine xQ 49 ((k : Int) + 1) ha fun a ha => ?_;refine jY [(2, 10, iv ((k : Int) + 1))] ha fun a ha => ?_;refine jZ (jJ ?_);replace hS := hS.pickN 7 [2, 3, 4, 5, 6];replace hS : Sat w0 w ((SX.row (.slice s38.A s38.n s38.c) 72 3 (encS3 ((b.take (k + 1)).map (renS (toG tl))))) :: (prg w0.heap.size s1 (numN l tl i)) :: (SX.blk b8 [.slice s1.A s1.n s1.c] 30) :: (SX.blk b3 [.slice none 0 0] 30) :: (SX.blk b1 [.slice s0.A s0.n s0.c] 30) :: []) := by rw [List.take_add_one, hx, List.map_append, show Option.toList (some x) = [x] from rfl, List.map_cons, List.map_nil, renS_no (fun h9 => by rcases h9 with h9 | h9; exact c17 h9; exact c25 h9)]; exact hS
   exact ⟨_, by omega, k + 1, s38, rfl, hkl, ha.keeps [1, 2, 4, 7, 8, 28, 29, 30, 31, 34, 35, 36, 37, 38, 39, 9, 10] _ rfl, hS⟩
  refine jU ha rfl (decide_eq_false c14) ?_
  refine wp_exit (qQ (qQ (in_x (jJ ?_))))
  have hx90 : 0 ≤ x9 := by omega
  have hxm := manyP_lt (List.mem_of_getElem? hx9)
  have hxl : x9.toNat < (numN l tl i).length := by rw [numN_len]; omega
  obtain ⟨bz, hbz⟩ : ∃ c, (numN l tl i)[x9.toNat]? = some c := ⟨_, List.getElem?_eq_getElem hxl⟩
  replace hS := hS.pickN 5 [1, 0, 2, 3, 4]
  obtain ⟨vs, z, hvl, hz, hS⟩ := openFn hS hbz
  replace hS : Sat w0 w ((SX.row (.slice s1.A s1.n s1.c) 70 1 (encSl vs)) :: (SX.row (.slice z.A z.n z.c) 72 3 (encS3 bz)) :: (holeA w0.heap.size (numN l tl i) vs x9.toNat) :: (SX.row (.slice bd.A bd.n bd.c) 72 3 (encS3 ((b.take k).map (renS (toG tl))))) :: (SX.blk b8 [.slice s1.A s1.n s1.c] 30) :: (SX.blk b3 [.slice none 0 0] 30) :: (SX.blk b1 [.slice s0.A s0.n s0.c] 30) :: []) := hS
  refine yU 8 9 hS fun w hS => ?_
  refine qY (k := 8) [(0, 76, ptr b8 0)] ha (.inr hS) fun a ha => ?_
  refine yW 1 (d := 77) (b := b8) (j := 0) ha hS (fun _ hw => hw.blk 4 rfl) rfl fun a ha => ?_
  refine qY (k := 5) [(2, 78, .slice rt.A rt.n rt.c), (3, 79, iv (i : Int))] ha (.inr hS) fun a ha => ?_
  refine xG 4 (.pointer (some ⟨bk rt, of_ rt + i * 1, none⟩)) ha (qV (el := 3) (sz := 1) (j := i) ha (xX (t := 44) (x := 78) (y := 79) (d := 80)) rfl rfl (by kernel_rfl) (by kernel_rfl) ((hrt.sat hS).at_ ((List.getElem?_eq_some_iff.1 hx9).1)).1 (by rw [((hrt.sat hS)).len]; exact (List.getElem?_eq_some_iff.1 hx9).1)) (.inr hS) fun a ha => ?_
  refine yV 5 (iv x9) ha (qW (p := ⟨bk rt, of_ rt + i * 1, none⟩) ha (xZ (t := 3) (x := 80) (d := 81) (ty := 3)) rfl (by kernel_rfl) (fun w' hw => by rw [Nat.mul_one, ← getD_at hx9]; exact ((hrt.sat hw).at_ ((List.getElem?_eq_some_iff.1 hx9).1)).2)) hS fun a ha => ?_
  refine qY (k := 2) [(6, 82, .slice bd.A bd.n bd.c)] ha (.inr hS) fun a ha => ?_
  refine xG 7 (.pointer (some ⟨bk s1, x9.toNat * 1, none⟩)) ha (yJ (s := s1) (el := 70) (sz := 1) (j := x9.toNat) ha (xX (t := 28) (x := 77) (y := 81) (d := 83)) rfl rfl (by kernel_rfl) (by kernel_rfl) (hS.rowA (s := s1) 0 rfl (by have := (List.getElem?_eq_some_iff.1 hz).1; rw [encSl_length]; omega)) ((Int.toNat_of_nonneg hx90).symm) (by have h9 := hS.rowL (s := s1) (enc := cSl) 0 cSl_len (by decide) rfl; have := (List.getElem?_eq_some_iff.1 hz).1; omega)) (.inr hS) fun a ha => ?_
  refine xH 8 (yQ (s := s1) (j := x9.toNat * 1 + 0) (xs := encSl vs) (xs' := encSl (vs.set x9.toNat bd)) 0 ha (xW (t := 70) (x := 83) (y := 82)) rfl rfl rfl (by kernel_rfl) hS rfl (by have := (List.getElem?_eq_some_iff.1 hz).1; rw [encSl_length]; omega) ((flat_set (enc := cSl) (x' := bd) cSl_len hz (by decide) rfl)) (fun w a (hS : Sat w0 w ((SX.row (.slice s1.A s1.n s1.c) 70 1 (encSl (vs.set x9.toNat bd))) :: (SX.row (.slice z.A z.n z.c) 72 3 (encS3 bz)) :: (holeA w0.heap.size (numN l tl i) vs x9.toNat) :: (SX.row (.slice bd.A bd.n bd.c) 72 3 (encS3 ((b.take k).map (renS (toG tl))))) :: (SX.blk b8 [.slice s1.A s1.n s1.c] 30) :: (SX.blk b3 [.slice none 0 0] 30) :: (SX.blk b1 [.slice s0.A s0.n s0.c] 30) :: [])) ha => ?_))
  refine zX (yY (in_n (jJ (jX [0, 1, 2] (jY [(0, 32, iv (i : Int))] ha fun a ha => ?_)))))
  refine xQ 33 ((i : Int) + 1) ha fun a ha => ?_
  refine jY [(2, 8, iv ((i : Int) + 1))] ha fun a ha => ?_
  refine jZ (jJ ?_)
  replace hS := hS.pickN 7 [0, 3, 2, 4, 5, 6]
  obtain rfl : k = b.length := by omega
  rw [List.take_length] at hS
  replace hS : Sat w0 w ((prg w0.heap.size s1 (numN l tl (i + 1))) :: (SX.blk b8 [.slice s1.A s1.n s1.c] 30) :: (SX.blk b3 [.slice none 0 0] 30) :: (SX.blk b1 [.slice s0.A s0.n s0.c] 30) :: []) := by rw [numN_set hx9 c11 hb]; exact shutFn (z' := bd) hxl hS
  exact ⟨_, by omega, i + 1, rfl, hil, ha.keeps [1, 2, 4, 7, 8] _ rfl, hS⟩
 refine jU ha rfl (decide_eq_false c10) ?_
 refine wp_exit (qQ (qQ (in_x (jJ (wp_seq (jX [0, 1] (xJ 84 ha (hS.blk 1 rfl) fun a ha => ?_)))))))
 refine jV (o_sa 2 ha (xW (t := 30) (x := 4) (y := 84)) hS fun w a hS ha => ?_)
 refine jZ ?_
 replace ha := ha.as [(4, ptr b3 0)] rfl
 refine jJ (wp_ret (qJ ha (by kernel_rfl) (yH (t := 4) (ty := 30) (i := 2) ha rfl hS rfl (by kernel_rfl)) ?_))
 obtain rfl : i = tl.length := by omega
 exact ⟨s1, rfl, hS.pickN 4 [0]⟩
theorem liftPn {w0 w : World} {Rs : List Asn} {f : FuncId} {args : Array Value} {L : List (List ST)} (hS : Sat w0 w Rs) (h : Calls Try.prog f args w (Ret fun r w' => ∃ s : Sl, r = .agg #[s.v] ∧ Sat w w' [prg w.heap.size s L])) : Calls Try.prog f args w (Ret fun r w' => ∃ s : Sl, r = .agg #[s.v] ∧ Sat w0 w' (prg w0.heap.size s L :: Rs)) := h.mono fun e w' h => by
 cases e with
 | returned r => obtain ⟨s, h1, h2⟩ := h; exact ⟨s, h1, (show Sat w0 w' (prg w.heap.size s L :: Rs) from hS.comp h2).turn (i := 0) rfl (prg w0.heap.size s L) (kdS_lower hS.below.size w')⟩
 | _ => exact h.elim
theorem code31 : Try.f31.body = some (Code.seq (cr Try.f31 0 false) (Code.seq (Code.seq (cr Try.f31 1 false) (Code.cond (Operand.tmp 21) (Code.seq (cr Try.f31 2 false) Code.ret) Code.skip)) (Code.seq (Code.seq (cr Try.f31 3 false) (Code.block 0 (Code.loop (Code.seq (cr Try.f31 4 false) (Code.seq (Code.cond (Operand.tmp 26) Code.skip (Code.exit 0)) (Code.seq (Code.block 1 (Code.seq (cr Try.f31 5 false) (Code.seq (cr Try.f31 6 false) (Code.cond (Operand.tmp 31) (Code.seq (cr Try.f31 7 false) Code.ret) Code.skip)))) (cr Try.f31 8 false))))))) (Code.seq (cr Try.f31 9 false) (Code.seq (cr Try.f31 10 false) (Code.seq (Code.seq (cr Try.f31 11 false) (Code.block 2 (Code.loop (Code.seq (cr Try.f31 12 false) (Code.seq (Code.cond (Operand.tmp 45) Code.skip (Code.exit 2)) (Code.seq (Code.block 3 (Code.seq (cr Try.f31 13 false) (cr Try.f31 14 true))) (cr Try.f31 15 false))))))) (Code.seq (cr Try.f31 16 false) Code.ret))))))) := by kernel_rfl
theorem impl_RenumberFunctions_sat0 {w0 : World} {s0 rt : Sl} {l : List (List ST)} {tl : List Int} (hr : RdP w0 s0 l) (hf : Fits l) (hrt : RdI w0 rt tl) :
  Calls Try.prog 31 #[.agg #[.slice s0.A s0.n s0.c], .slice rt.A rt.n rt.c] w0 (Ret fun r w' => ∃ s : Sl, r = .tuple #[.agg #[s.v], .bool (renP l tl).2] ∧ Sat w0 w' [prg w0.heap.size s (renP l tl).1]) := by
 have hS : Sat w0 w0 [] := Sat.start w0
 have hln := hrt.len
 have hlen := hf.len
 have hsn := hr.len
 refine enter (n := 59) Try.func31 code31 (by kernel_rfl) (Nat.le_of_ble_eq_true rfl) (fun a ha => ?_)
 replace ha : Has 59 [(0, .agg #[.slice s0.A s0.n s0.c]), (1, .slice rt.A rt.n rt.c)] a := ha
 refine wp_seq (jX [0, 1, 2, 3] (jV (qH 2 [.slice s0.A s0.n s0.c] 30 (ptr · 0) ha hS fun b1 w a hb2 hS ha => ?_)))
 refine jV (qH 3 [.slice rt.A rt.n rt.c] 44 (ptr · 0) ha hS fun b3 w a hb4 hS ha => ?_)
 refine jV (qH 4 [.slice none 0 0] 30 (ptr · 0) ha hS fun b5 w a hb6 hS ha => ?_)
 refine jY [(3, 5, .bool false)] ha fun a ha => ?_
 refine jZ (jJ (wp_seq (wp_seq (jX [0, 1, 2, 3, 4, 5, 6, 7, 8, 9, 10] (xJ 11 ha (hS.blk 2 rfl) fun a ha => ?_)))))
 refine jV (qX 12 (vs := [.agg #[.slice s0.A s0.n s0.c]]) ha (isProgram_sat hS (hr.sat hS) hf) fun v7 w a hp8 ha => ?_)
 obtain ⟨rfl, hS⟩ := hp8
 refine jY [(2, 13, .bool (!(programB l))), (3, 14, .bool (!(programB l)))] ha fun a ha => ?_
 rcases Bool.eq_false_or_eq_true (programB l) with c9 | c9
 ·
  replace ha := ha.turn 12 (.bool true) rfl (congrArg Value.bool c9)
  replace ha := ha.turn 13 (.bool false) rfl (congrArg Value.bool (xY c9))
  replace ha := ha.turn 14 (.bool false) rfl (congrArg Value.bool (xY c9))
  refine qG (d := 15) (b := b3) (j := 0) ha (hS.blk 1 rfl) rfl fun a ha => ?_
  refine jY [(5, 16, iv (rt.n : Int)), (6, 17, ptr b1 0)] ha fun a ha => ?_
  refine qG (d := 18) (b := b1) (j := 0) ha (hS.blk 2 rfl) rfl fun a ha => ?_
  refine jY [(8, 19, iv (s0.n : Int)), (9, 20, .bool (!(decide ((rt.n : Int) = (s0.n : Int))))), (10, 21, .bool (!(decide ((rt.n : Int) = (s0.n : Int)))))] ha fun a ha => ?_
  refine jZ (jJ ?_)
  by_cases c10 : (rt.n : Int) = (s0.n : Int)
  ·
   refine jU ha rfl (xY (decide_eq_true c10)) ?_;refine wp_skip (jJ (wp_seq (wp_seq (jX [0, 1, 2] (qG (d := 23) (b := b3) (j := 0) ha (hS.blk 1 rfl) rfl fun a ha => ?_)))));refine jY [(1, 24, iv (rt.n : Int)), (2, 25, iv 0)] ha fun a ha => ?_;refine jZ (jJ (wp_block ?_));replace hS : Sat w0 w ((SX.blk b5 [.slice none 0 0] 30) :: (SX.blk b3 [.slice rt.A rt.n rt.c] 44) :: (SX.blk b1 [.slice s0.A s0.n s0.c] 30) :: []) := hS;refine wp_loop_ghost (fun n_ a_ w_ => ∃ (i : Nat), n_ = tl.length - i ∧ (i ≤ tl.length) ∧ (∀ f : Nat, f < i → tl.contains (f : Int) = true) ∧ Has 59 [(2, ptr b1 0), (3, ptr b3 0), (4, ptr b5 0), (5, .bool false), (24, iv (rt.n : Int)), (25, iv (i : Int))] a_ ∧ Sat w0 w_ ((SX.blk b5 [.slice none 0 0] 30) :: (SX.blk b3 [.slice rt.A rt.n rt.c] 44) :: (SX.blk b1 [.slice s0.A s0.n s0.c] 30) :: [])) _ ⟨0, rfl, Nat.zero_le _, (fun f h => absurd h (Nat.not_lt_zero f)), ha.keeps [2, 3, 4, 5, 24, 25] _ rfl, hS⟩ ?_
   rintro n_ a w ⟨i, rfl, hi, hall, ha, hS⟩
   refine wp_seq (jX [0] (jY [(0, 26, .bool (decide ((i : Int) < (rt.n : Int))))] ha fun a ha => ?_));refine jZ (jJ (wp_seq ?_))
   by_cases c11 : (i : Int) < (rt.n : Int)
   ·
    have hil : i < tl.length := by omega
    refine jH ha rfl (decide_eq_true c11) ?_;refine wp_skip (jJ (wp_seq (wp_block (wp_seq (jX [0, 1] (jY [(0, 27, iv (i : Int)), (1, 6, iv (i : Int))] ha fun a ha => ?_))))));refine jZ (jJ (wp_seq (jX [0, 1, 2, 3] (qG (d := 28) (b := b3) (j := 0) ha (hS.blk 1 rfl) rfl fun a ha => ?_))));refine jY [(1, 29, iv (i : Int))] ha fun a ha => ?_;refine jV (qX 30 (vs := [.slice rt.A rt.n rt.c, iv (i : Int)]) ha (ocont_sat hS (hrt.sat hS) (i : Int)) fun v12 w a hp13 ha => ?_);obtain ⟨rfl, hS⟩ := hp13;refine jY [(3, 31, .bool (!((tl.contains (i : Int)))))] ha fun a ha => ?_;refine jZ (jJ ?_)
    rcases Bool.eq_false_or_eq_true (tl.contains (i : Int)) with c14 | c14
    ·
     refine jU ha rfl (xY c14) ?_;refine wp_skip (in_n (jJ (jX [0, 1] (xQ 33 ((i : Int) + 1) ha fun a ha => ?_))));refine jY [(1, 25, iv ((i : Int) + 1))] ha fun a ha => ?_;refine jZ (jJ ?_);replace hS : Sat w0 w ((SX.blk b5 [.slice none 0 0] 30) :: (SX.blk b3 [.slice rt.A rt.n rt.c] 44) :: (SX.blk b1 [.slice s0.A s0.n s0.c] 30) :: []) := hS;exact ⟨_, by omega, i + 1, rfl, hil, (fun f h => by by_cases e9 : f = i; subst e9; exact c14; exact hall f (by omega)), ha.keeps [2, 3, 4, 5, 24, 25] _ rfl, hS⟩
    refine jH ha rfl (xV c14) ?_;refine wp_seq (jX [0, 1, 2] (jY [(0, 32, .agg #[.slice none 0 0])] ha fun a ha => ?_));refine jV (o_sa 0 ha (xW (t := 30) (x := 4) (y := 32)) hS fun w a hS ha => ?_);refine jY [(2, 5, .bool false)] ha fun a ha => ?_;refine jZ (jJ (wp_ret (in_r (qZ (qZ (in_r (qZ (xU ha (by kernel_rfl) (yH (t := 4) (ty := 30) (i := 0) ha rfl hS rfl (by kernel_rfl)) (qU (t := 5) ha rfl) ?_))))))));rw [renP_no (.inr (ordB_bad4 (f := i) (by have h9 := hr.len; omega) c14))];exact ⟨⟨none, 0, 0⟩, rfl, nilPrg (Sat.rest [_, _, _] hS)⟩
   refine jU ha rfl (decide_eq_false c11) ?_;refine wp_exit (qQ (qQ (in_x (jJ (wp_seq ?_)))));have hie : i = tl.length := by omega
   have hord : ordB tl l.length = true := ordB_all (by omega) (fun f hf9 => hall f (by omega));have hmn := manyP_ord hord;refine jX [0, 1, 2, 3, 4] (jY [(0, 34, ptr b1 0)] ha fun a ha => ?_);refine qG (d := 35) (b := b1) (j := 0) ha (hS.blk 2 rfl) rfl fun a ha => ?_;refine jY [(2, 36, .func (.func 89) #[] #[ptr b3 0])] ha fun a ha => ?_;replace hS := hS.pickN 3 [1, 0, 2];refine jV (qX 37 (vs := [.slice s0.A s0.n s0.c, .func (.func 89) #[] #[ptr b3 0]]) ha (renI_sat (F := 89) (cap := [ptr b3 0]) (g := toG tl) hS hr hf c9 Try.func89 (by kernel_rfl) (fun w1 Xs x hx h1 => renC_sat h1 hrt (by omega))) fun v15 w a hp16 ha => ?_);obtain ⟨o, rfl, hS⟩ := hp16;refine jY [(4, 7, .slice o.A o.n o.c)] ha fun a ha => ?_;refine jZ ?_;replace ha := ha.as [(3, ptr b3 0), (4, ptr b5 0), (5, .bool false), (7, .slice o.A o.n o.c)] rfl;refine jJ (wp_seq (jX [0, 1, 2, 3, 4, 5] (qG (d := 38) (b := b3) (j := 0) ha (hS.blk 1 rfl) rfl fun a ha => ?_)));refine jY [(1, 39, iv (rt.n : Int))] ha fun a ha => ?_;refine jV (o_makeR (enc := cSl) (x0 := ⟨none, 0, 0⟩) (z := .slice none 0 0) (m := rt.n) (bytes := 24) (el := 70) ha (by decide) (yG (op := (Op.makeSlice 28 (Operand.tmp 39) (Operand.tmp 39))) (d := some 40) (ty := 28)) rfl rfl (by kernel_rfl) (by kernel_rfl) rfl cSl_len (by decide) (by decide) (by omega) hS fun s1 w a hsn1 hS ha => ?_);replace hS := prgNew (s := s1) (m := rt.n) hS;refine jY [(3, 41, .agg #[.slice s1.A s1.n s1.c])] ha fun a ha => ?_;refine jV (qH 8 [.slice none 0 0] 30 (ptr · 0) ha hS fun b17 w a hb18 hS ha => ?_);refine jV (o_sa 0 ha (xW (t := 30) (x := 8) (y := 41)) hS fun w a hS ha => ?_);refine jZ (jJ (wp_seq (wp_seq (jX [0, 1, 2] (jY [(0, 42, .slice o.A o.n o.c), (1, 43, iv (o.n : Int)), (2, 44, iv 0)] ha fun a ha => ?_)))));refine jZ (jJ (wp_block ?_));replace hS := hS.pickN 6 [2, 1, 0, 3, 4];obtain ⟨vl, hvll, hS⟩ := prgOpen hS;rw [List.length_map] at hvll;replace hS : Sat w0 w ((SX.row (.slice o.A o.n o.c) 70 1 (encSl vl)) :: (starD w0.heap.size (l.map (List.map (renS (toG tl)))) vl 0) :: (prg w0.heap.size s1 (numN l tl 0)) :: (SX.blk b17 [.slice s1.A s1.n s1.c] 30) :: (SX.blk b3 [.slice rt.A rt.n rt.c] 44) :: (SX.blk b5 [.slice none 0 0] 30) :: []) := by rw [show numN l tl 0 = List.replicate rt.n [] by unfold numN; congr 1; omega]; exact hS
   replace hS := hS.pickN 6 [2, 0, 1, 3, 4, 5];have hon : o.n = vl.length := hS.rowL (s := o) (enc := cSl) 1 cSl_len (by decide) rfl;refine wp_loop_ghost (fun n_ a_ w_ => ∃ (i : Nat), n_ = l.length - i ∧ (i ≤ l.length) ∧ Has 59 [(3, ptr b3 0), (4, ptr b5 0), (5, .bool false), (8, ptr b17 0), (42, .slice o.A o.n o.c), (43, iv (o.n : Int)), (44, iv (i : Int))] a_ ∧ Sat w0 w_ ((prg w0.heap.size s1 (numN l tl i)) :: (SX.row (.slice o.A o.n o.c) 70 1 (encSl vl)) :: (starD w0.heap.size (l.map (List.map (renS (toG tl)))) vl i) :: (SX.blk b17 [.slice s1.A s1.n s1.c] 30) :: (SX.blk b3 [.slice rt.A rt.n rt.c] 44) :: (SX.blk b5 [.slice none 0 0] 30) :: [])) _ ⟨0, rfl, Nat.zero_le _, ha.keeps [3, 4, 5, 8, 42, 43, 44] _ rfl, hS⟩ ?_
   rintro n_ a w ⟨i, rfl, hi, ha, hS⟩
   refine wp_seq (jX [0] (jY [(0, 45, .bool (decide ((i : Int) < (o.n : Int))))] ha fun a ha => ?_));refine jZ (jJ (wp_seq ?_))
   by_cases c19 : (i : Int) < (o.n : Int)
   ·
    have hil : i < l.length := by omega
    obtain ⟨b, hb⟩ : ∃ b, l[i]? = some b := ⟨_, List.getElem?_eq_getElem hil⟩;obtain ⟨zi, hzi⟩ : ∃ q, vl[i]? = some q := ⟨_, List.getElem?_eq_getElem (by omega)⟩;obtain ⟨x9, hx9⟩ : ∃ q, tl[i]? = some q := ⟨_, List.getElem?_eq_getElem (by omega)⟩;refine jH ha rfl (decide_eq_true c19) ?_;refine wp_skip (jJ (wp_seq (wp_block (wp_seq (jX [0, 1, 2, 3, 4] (jY [(0, 46, iv (i : Int))] ha fun a ha => ?_))))));refine qK (.pointer (some ⟨bk o, i * 1, none⟩)) ha (yJ (s := o) (el := 70) (sz := 1) (j := i) ha (xX (t := 28) (x := 42) (y := 44) (d := 47)) rfl rfl (by kernel_rfl) (by kernel_rfl) (hS.rowA (s := o) 1 rfl (by have := (List.getElem?_eq_some_iff.1 hzi).1; rw [encSl_length]; omega)) (rfl) (by have h9 := hS.rowL (s := o) (enc := cSl) 1 cSl_len (by decide) rfl; have := (List.getElem?_eq_some_iff.1 hzi).1; omega)) fun a ha => ?_;refine qK (.slice zi.A zi.n zi.c) ha (qW ha (xZ (t := 70) (x := 47) (d := 48) (ty := 70)) rfl (by kernel_rfl) (fun w' hw => by rw [hw]; exact (hS.rdC (s := o) 1 rfl).cells _ _ ((flat_get (enc := cSl) (o := 0) cSl_len hzi (by decide)).trans rfl))) fun a ha => ?_;refine jY [(3, 9, iv (i : Int)), (4, 10, .slice zi.A zi.n zi.c)] ha fun a ha => ?_;refine jZ (jJ ?_);have hxr := ordB_rng hord (List.mem_of_getElem? hx9);have hx90 : 0 ≤ x9 := hxr.1;have hxl : x9.toNat < (numN l tl i).length := by rw [numN_len]; omega
    obtain ⟨bz, hbz⟩ : ∃ c, (numN l tl i)[x9.toNat]? = some c := ⟨_, List.getElem?_eq_getElem hxl⟩;replace hS := hS.pickN 6 [2, 0, 1, 3, 4, 5];replace hS := starTake (by rw [List.getElem?_map, hb]; rfl) hzi hS;replace hS := hS.pickN 7 [2, 0, 1, 3, 4, 5, 6];obtain ⟨vs, z, hvl, hz, hS⟩ := openFn hS hbz;replace hS : Sat w0 w ((SX.row (.slice s1.A s1.n s1.c) 70 1 (encSl vs)) :: (SX.row (.slice z.A z.n z.c) 72 3 (encS3 bz)) :: (holeA w0.heap.size (numN l tl i) vs x9.toNat) :: (SX.row (.slice zi.A zi.n zi.c) 72 3 (encS3 (b.map (renS (toG tl))))) :: (starD w0.heap.size (l.map (List.map (renS (toG tl)))) vl (i + 1)) :: (SX.row (.slice o.A o.n o.c) 70 1 (encSl vl)) :: (SX.blk b17 [.slice s1.A s1.n s1.c] 30) :: (SX.blk b3 [.slice rt.A rt.n rt.c] 44) :: (SX.blk b5 [.slice none 0 0] 30) :: []) := hS;refine yU 8 9 hS fun w hS => ?_;refine qY (k := 8) [(0, 49, ptr b17 0)] ha (.inr hS) fun a ha => ?_;refine yW 1 (d := 50) (b := b17) (j := 0) ha hS (fun _ hw => hw.blk 6 rfl) rfl fun a ha => ?_;refine yW 2 (d := 51) (b := b3) (j := 0) ha hS (fun _ hw => hw.blk 7 rfl) rfl fun a ha => ?_;refine qY (k := 5) [(3, 52, iv (i : Int))] ha (.inr hS) fun a ha => ?_;refine xG 4 (.pointer (some ⟨bk rt, of_ rt + i * 1, none⟩)) ha (qV (el := 3) (sz := 1) (j := i) ha (xX (t := 44) (x := 51) (y := 52) (d := 53)) rfl rfl (by kernel_rfl) (by kernel_rfl) ((hrt.sat hS).at_ ((List.getElem?_eq_some_iff.1 hx9).1)).1 (by rw [((hrt.sat hS)).len]; exact (List.getElem?_eq_some_iff.1 hx9).1)) (.inr hS) fun a ha => ?_;refine yV 5 (iv x9) ha (qW (p := ⟨bk rt, of_ rt + i * 1, none⟩) ha (xZ (t := 3) (x := 53) (d := 54) (ty := 3)) rfl (by kernel_rfl) (fun w' hw => by rw [Nat.mul_one, ← getD_at hx9]; exact ((hrt.sat hw).at_ ((List.getElem?_eq_some_iff.1 hx9).1)).2)) hS fun a ha => ?_;refine qY (k := 2) [(6, 55, .slice zi.A zi.n zi.c)] ha (.inr hS) fun a ha => ?_;refine xG 7 (.pointer (some ⟨bk s1, x9.toNat * 1, none⟩)) ha (yJ (s := s1) (el := 70) (sz := 1) (j := x9.toNat) ha (xX (t := 28) (x := 50) (y := 54) (d := 56)) rfl rfl (by kernel_rfl) (by kernel_rfl) (hS.rowA (s := s1) 0 rfl (by have := (List.getElem?_eq_some_iff.1 hz).1; rw [encSl_length]; omega)) ((Int.toNat_of_nonneg hx90).symm) (by have h9 := hS.rowL (s := s1) (enc := cSl) 0 cSl_len (by decide) rfl; have := (List.getElem?_eq_some_iff.1 hz).1; omega)) (.inr hS) fun a ha => ?_;refine xH 8 (yQ (s := s1) (j := x9.toNat * 1 + 0) (xs := encSl vs) (xs' := encSl (vs.set x9.toNat zi)) 0 ha (xW (t := 70) (x := 56) (y := 55)) rfl rfl rfl (by kernel_rfl) hS rfl (by have := (List.getElem?_eq_some_iff.1 hz).1; rw [encSl_length]; omega) ((flat_set (enc := cSl) (x' := zi) cSl_len hz (by decide) rfl)) (fun w a (hS : Sat w0 w ((SX.row (.slice s1.A s1.n s1.c) 70 1 (encSl (vs.set x9.toNat zi))) :: (SX.row (.slice z.A z.n z.c) 72 3 (encS3 bz)) :: (holeA w0.heap.size (numN l tl i) vs x9.toNat) :: (SX.row (.slice zi.A zi.n zi.c) 72 3 (encS3 (b.map (renS (toG tl))))) :: (starD w0.heap.size (l.map (List.map (renS (toG tl)))) vl (i + 1)) :: (SX.row (.slice o.A o.n o.c) 70 1 (encSl vl)) :: (SX.blk b17 [.slice s1.A s1.n s1.c] 30) :: (SX.blk b3 [.slice rt.A rt.n rt.c] 44) :: (SX.blk b5 [.slice none 0 0] 30) :: [])) ha => ?_))
    refine zX (yY (in_n (jJ (jX [0, 1] (xQ 57 ((i : Int) + 1) ha fun a ha => ?_)))));refine jY [(1, 44, iv ((i : Int) + 1))] ha fun a ha => ?_;refine jZ (jJ ?_);replace hS := hS.pickN 9 [0, 3, 2, 5, 4, 6, 7, 8];replace hS : Sat w0 w ((prg w0.heap.size s1 (numN l tl (i + 1))) :: (SX.row (.slice o.A o.n o.c) 70 1 (encSl vl)) :: (starD w0.heap.size (l.map (List.map (renS (toG tl)))) vl (i + 1)) :: (SX.blk b17 [.slice s1.A s1.n s1.c] 30) :: (SX.blk b3 [.slice rt.A rt.n rt.c] 44) :: (SX.blk b5 [.slice none 0 0] 30) :: []) := by rw [numN_set hx9 (by omega) hb]; exact shutFn (z' := zi) hxl hS
    exact ⟨_, by omega, i + 1, rfl, hil, ha.keeps [3, 4, 5, 8, 42, 43, 44] _ rfl, hS⟩
   refine jU ha rfl (decide_eq_false c19) ?_;refine wp_exit (qQ (qQ (in_x (jJ (wp_seq (jX [0, 1, 2] (xJ 58 ha (hS.blk 3 rfl) fun a ha => ?_)))))));refine jV (o_sa 5 ha (xW (t := 30) (x := 4) (y := 58)) hS fun w a hS ha => ?_);refine jY [(2, 5, .bool true)] ha fun a ha => ?_;refine jZ (jJ (wp_ret (xU ha (by kernel_rfl) (yH (t := 4) (ty := 30) (i := 5) ha rfl hS rfl (by kernel_rfl)) (qU (t := 5) ha rfl) ?_)));obtain rfl : i = l.length := by omega
   rw [renP_yes c9 hord];have hE : numP l tl = numN l tl l.length := by unfold numP; rw [ordB_len hord]
   rw [hE];exact ⟨s1, rfl, hS.pickN 6 [0]⟩
  refine jH ha rfl (xV (decide_eq_false c10)) ?_
  refine wp_seq (jX [0, 1, 2] (jY [(0, 22, .agg #[.slice none 0 0])] ha fun a ha => ?_))
  refine jV (o_sa 0 ha (xW (t := 30) (x := 4) (y := 22)) hS fun w a hS ha => ?_)
  refine jY [(2, 5, .bool false)] ha fun a ha => ?_
  refine jZ (jJ (wp_ret (qZ (xU ha (by kernel_rfl) (yH (t := 4) (ty := 30) (i := 0) ha rfl hS rfl (by kernel_rfl)) (qU (t := 5) ha rfl) ?_))))
  rw [renP_no (.inr (ordB_bad3 (by have h9 := hr.len; omega)))]
  exact ⟨⟨none, 0, 0⟩, rfl, nilPrg (Sat.rest [_, _, _] hS)⟩
 replace ha := ha.turn 12 (.bool false) rfl (congrArg Value.bool c9)
 replace ha := ha.turn 13 (.bool true) rfl (congrArg Value.bool (xV c9))
 replace ha := ha.turn 14 (.bool true) rfl (congrArg Value.bool (xV c9))
 refine jY [(4, 15, undef), (5, 16, undef), (6, 17, undef), (7, 18, undef), (8, 19, undef), (9, 20, undef), (10, 21, .bool true)] ha fun a ha => ?_
 refine jZ (jJ ?_)
 refine jH ha rfl rfl ?_
 refine wp_seq (jX [0, 1, 2] (jY [(0, 22, .agg #[.slice none 0 0])] ha fun a ha => ?_))
 refine jV (o_sa 0 ha (xW (t := 30) (x := 4) (y := 22)) hS fun w a hS ha => ?_)
 refine jY [(2, 5, .bool false)] ha fun a ha => ?_
 refine jZ (jJ (wp_ret (qZ (xU ha (by kernel_rfl) (yH (t := 4) (ty := 30) (i := 0) ha rfl hS rfl (by kernel_rfl)) (qU (t := 5) ha rfl) ?_))))
 rw [renP_no (.inl c9)]
 exact ⟨⟨none, 0, 0⟩, rfl, nilPrg (Sat.rest [_, _, _] hS)⟩
theorem impl_RenumberFunctions_sat {w0 w : World} {Rs : List Asn} {s0 rt : Sl} {l : List (List ST)} {tl : List Int} (hS : Sat w0 w Rs) (hr : RdP w s0 l) (hf : Fits l) (hrt : RdI w rt tl) :
  Calls Try.prog 31 #[.agg #[.slice s0.A s0.n s0.c], .slice rt.A rt.n rt.c] w (Ret fun r w' => ∃ s : Sl, r = .tuple #[.agg #[s.v], .bool (renP l tl).2] ∧ Sat w0 w' (prg w0.heap.size s (renP l tl).1 :: Rs)) := liftPB hS (impl_RenumberFunctions_sat0 hr hf hrt)
theorem code29 : Try.f29.body = some (Code.seq (cr Try.f29 0 false) (Code.seq (Code.seq (cr Try.f29 1 false) (Code.cond (Operand.tmp 16) (Code.seq (cr Try.f29 2 false) Code.ret) Code.skip)) (Code.seq (cr Try.f29 3 false) Code.ret))) := by kernel_rfl
theorem spec_RenumberFunctions_sat0 {w0 : World} {s0 rt : Sl} {l : List (List ST)} {tl : List Int} (hr : RdP w0 s0 l) (hf : Fits l) (hrt : RdI w0 rt tl) :
  Calls Try.prog 29 #[.agg #[.slice s0.A s0.n s0.c], .slice rt.A rt.n rt.c] w0 (Ret fun r w' => ∃ s : Sl, r = .tuple #[.agg #[s.v], .bool (renP l tl).2] ∧ Sat w0 w' [prg w0.heap.size s (renP l tl).1]) := by
 have hS : Sat w0 w0 [] := Sat.start w0
 have hln := hrt.len
 have hlen := hf.len
 have hsn := hr.len
 refine enter (n := 21) Try.func29 code29 (by kernel_rfl) (Nat.le_of_ble_eq_true rfl) (fun a ha => ?_)
 replace ha : Has 21 [(0, .agg #[.slice s0.A s0.n s0.c]), (1, .slice rt.A rt.n rt.c)] a := ha
 refine wp_seq (jX [0, 1, 2] (jV (qH 2 [.slice s0.A s0.n s0.c] 30 (ptr · 0) ha hS fun b1 w a hb2 hS ha => ?_)))
 refine jV (qH 4 [.slice none 0 0] 30 (ptr · 0) ha hS fun b3 w a hb4 hS ha => ?_)
 refine jY [(2, 5, .bool false)] ha fun a ha => ?_
 refine jZ (jJ (wp_seq (wp_seq (jX [0, 1, 2, 3, 4, 5, 6, 7, 8, 9, 10] (xJ 6 ha (hS.blk 1 rfl) fun a ha => ?_)))))
 refine jV (qX 7 (vs := [.agg #[.slice s0.A s0.n s0.c]]) ha (l2Program_sat hS (hr.sat hS) hf) fun v5 w a hp6 ha => ?_)
 obtain ⟨rfl, hS⟩ := hp6
 refine jY [(2, 8, .bool (!(programB l))), (3, 9, .bool (!(programB l)))] ha fun a ha => ?_
 rcases Bool.eq_false_or_eq_true (programB l) with c7 | c7
 ·
  replace ha := ha.turn 7 (.bool true) rfl (congrArg Value.bool c7)
  replace ha := ha.turn 8 (.bool false) rfl (congrArg Value.bool (xY c7))
  replace ha := ha.turn 9 (.bool false) rfl (congrArg Value.bool (xY c7))
  refine jY [(4, 10, .slice rt.A rt.n rt.c), (5, 11, ptr b1 0)] ha fun a ha => ?_
  refine qG (d := 12) (b := b1) (j := 0) ha (hS.blk 1 rfl) rfl fun a ha => ?_
  refine jY [(7, 13, iv (s0.n : Int))] ha fun a ha => ?_
  refine jV (qX 14 (vs := [.slice rt.A rt.n rt.c, iv (s0.n : Int)]) ha (order_sat (n := l.length) hS hrt (by rw [hr.len]) hlen) fun v8 w a hp9 ha => ?_)
  obtain ⟨rfl, hS⟩ := hp9
  refine jY [(9, 15, .bool (!((ordB tl l.length)))), (10, 16, .bool (!((ordB tl l.length))))] ha fun a ha => ?_
  refine jZ (jJ ?_)
  rcases Bool.eq_false_or_eq_true (ordB tl l.length) with c10 | c10
  ·
   refine jU ha rfl (xY c10) ?_;refine wp_skip (jJ (wp_seq (jX [0, 1, 2, 3, 4] (xJ 18 ha (hS.blk 1 rfl) fun a ha => ?_))));refine jY [(1, 19, .slice rt.A rt.n rt.c)] ha fun a ha => ?_;refine jV (qX 20 (vs := [.agg #[.slice s0.A s0.n s0.c], .slice rt.A rt.n rt.c]) ha (liftPn hS (numQ_sat0 (hr.sat hS) hf c7 (hrt.sat hS) (ordB_len c10) (fun x hx => by have h9 := ordB_rng c10 hx; exact ⟨by omega, by omega⟩))) fun v11 w a hp12 ha => ?_);obtain ⟨s1, rfl, hS⟩ := hp12;refine jV (o_sa 1 ha (xW (t := 30) (x := 4) (y := 20)) hS fun w a hS ha => ?_);refine jY [(4, 5, .bool true)] ha fun a ha => ?_;refine jZ (jJ (wp_ret (xU ha (by kernel_rfl) (yH (t := 4) (ty := 30) (i := 1) ha rfl hS rfl (by kernel_rfl)) (qU (t := 5) ha rfl) ?_)));rw [renP_yes c7 c10];exact ⟨s1, rfl, hS.pickN 3 [0]⟩
  refine jH ha rfl (xV c10) ?_
  refine wp_seq (jX [0, 1, 2] (jY [(0, 17, .agg #[.slice none 0 0])] ha fun a ha => ?_))
  refine jV (o_sa 0 ha (xW (t := 30) (x := 4) (y := 17)) hS fun w a hS ha => ?_)
  refine jY [(2, 5, .bool false)] ha fun a ha => ?_
  refine jZ (jJ (wp_ret (qZ (xU ha (by kernel_rfl) (yH (t := 4) (ty := 30) (i := 0) ha rfl hS rfl (by kernel_rfl)) (qU (t := 5) ha rfl) ?_))))
  rw [renP_no (.inr c10)]
  exact ⟨⟨none, 0, 0⟩, rfl, nilPrg (Sat.rest [_, _] hS)⟩
 replace ha := ha.turn 7 (.bool false) rfl (congrArg Value.bool c7)
 replace ha := ha.turn 8 (.bool true) rfl (congrArg Value.bool (xV c7))
 replace ha := ha.turn 9 (.bool true) rfl (congrArg Value.bool (xV c7))
 refine jY [(4, 10, undef), (5, 11, undef), (6, 12, undef), (7, 13, undef), (8, 14, undef), (9, 15, undef), (10, 16, .bool true)] ha fun a ha => ?_
 refine jZ (jJ ?_)
 refine jH ha rfl rfl ?_
 refine wp_seq (jX [0, 1, 2] (jY [(0, 17, .agg #[.slice none 0 0])] ha fun a ha => ?_))
 refine jV (o_sa 0 ha (xW (t := 30) (x := 4) (y := 17)) hS fun w a hS ha => ?_)
 refine jY [(2, 5, .bool false)] ha fun a ha => ?_
 refine jZ (jJ (wp_ret (qZ (xU ha (by kernel_rfl) (yH (t := 4) (ty := 30) (i := 0) ha rfl hS rfl (by kernel_rfl)) (qU (t := 5) ha rfl) ?_))))
 rw [renP_no (.inl c7)]
 exact ⟨⟨none, 0, 0⟩, rfl, nilPrg (Sat.rest [_, _] hS)⟩
theorem spec_RenumberFunctions_sat {w0 w : World} {Rs : List Asn} {s0 rt : Sl} {l : List (List ST)} {tl : List Int} (hS : Sat w0 w Rs) (hr : RdP w s0 l) (hf : Fits l) (hrt : RdI w rt tl) :
  Calls Try.prog 29 #[.agg #[.slice s0.A s0.n s0.c], .slice rt.A rt.n rt.c] w (Ret fun r w' => ∃ s : Sl, r = .tuple #[.agg #[s.v], .bool (renP l tl).2] ∧ Sat w0 w' (prg w0.heap.size s (renP l tl).1 :: Rs)) := liftPB hS (spec_RenumberFunctions_sat0 hr hf hrt)
theorem code6 : Try.f6.body = some (Code.seq (cr Try.f6 0 false) (Code.seq (Code.seq (cr Try.f6 1 false) (Code.cond (Operand.tmp 19) (Code.seq (cr Try.f6 2 false) Code.ret) Code.skip)) (Code.seq (cr Try.f6 3 false) (Code.seq (cr Try.f6 4 false) (Code.seq (Code.seq (cr Try.f6 5 false) (Code.cond (Operand.tmp 24) (Code.seq (cr Try.f6 6 false) Code.ret) Code.skip)) (Code.seq (cr Try.f6 7 false) (Code.seq (cr Try.f6 8 false) (Code.seq (cr Try.f6 9 false) (Code.seq (cr Try.f6 10 false) (Code.seq (Code.seq (cr Try.f6 11 false) (Code.cond (Operand.tmp 51) (Code.seq (cr Try.f6 12 false) Code.ret) Code.skip)) (Code.seq (Code.seq (cr Try.f6 13 true) (Code.cond (Operand.tmp 56) (Code.seq (cr Try.f6 14 false) Code.ret) Code.skip)) (Code.seq (Code.seq (cr Try.f6 15 false) (Code.cond (Operand.tmp 61) (Code.seq (cr Try.f6 16 false) Code.ret) Code.skip)) (Code.seq (cr Try.f6 17 false) (Code.seq (cr Try.f6 18 false) (Code.seq (cr Try.f6 19 false) (Code.seq (Code.seq (cr Try.f6 20 false) (Code.cond (Operand.tmp 80) (Code.seq (cr Try.f6 21 false) Code.ret) Code.skip)) (Code.seq (cr Try.f6 22 false) (Code.seq (cr Try.f6 23 false) (Code.seq (cr Try.f6 24 false) (Code.seq (cr Try.f6 25 false) (Code.seq (Code.seq (cr Try.f6 26 false) (Code.cond (Operand.tmp 88) (Code.seq (cr Try.f6 27 false) Code.ret) Code.skip)) (Code.seq (Code.seq (cr Try.f6 28 false) (Code.cond (Operand.tmp 91) (Code.seq (cr Try.f6 29 false) Code.ret) Code.skip)) (Code.seq (cr Try.f6 30 false) (Code.seq (Code.seq (cr Try.f6 31 false) (Code.cond (Operand.tmp 108) (Code.seq (cr Try.f6 32 false) Code.ret) Code.skip)) (Code.seq (cr Try.f6 33 false) (Code.seq (cr Try.f6 34 false) (Code.seq (Code.seq (cr Try.f6 35 false) (Code.cond (Operand.tmp 113) (Code.seq (cr Try.f6 36 false) Code.ret) Code.skip)) (Code.seq (Code.seq (cr Try.f6 37 false) (Code.cond (Operand.tmp 116) (Code.seq (cr Try.f6 38 false) Code.ret) Code.skip)) (Code.seq (cr Try.f6 39 false) Code.ret))))))))))))))))))))))))))))) := by kernel_rfl
theorem law6_walk (w0 : World) (s0 : Sl) (l0 : List (List LT)) (rtl : Sl) (tl : List Int) (hr0 : RdA w0 s0 l0) (hrtl : RdI w0 rtl tl) :
  Calls Try.prog 6 #[.agg #[.slice s0.A s0.n s0.c], .slice rtl.A rtl.n rtl.c] w0 (Ret fun r w' => r = .bool true ∧ Below w0.heap.size w0 w') := by
 have hS : Sat w0 w0 [] := Sat.start w0
 have hntl := hrtl.len
 have hgtl := hrtl.big
 refine enter (n := 117) Try.func6 code6 (by kernel_rfl) (Nat.le_of_ble_eq_true rfl) (fun a ha => ?_)
 replace ha : Has 117 [(0, .agg #[.slice s0.A s0.n s0.c]), (1, .slice rtl.A rtl.n rtl.c)] a := ha
 refine wp_seq (jX [0, 1] (jV (qH 2 [.slice s0.A s0.n s0.c] 24 (ptr · 0) ha hS fun b1 w a hb2 hS ha => ?_)))
 refine jY [(1, 4, .bool false)] ha fun a ha => ?_
 refine jZ (jJ (wp_seq (wp_seq (jX [0, 1, 2] (jY [(0, 17, .slice rtl.A rtl.n rtl.c), (1, 18, iv (rtl.n : Int)), (2, 19, .bool (decide ((rtl.n : Int) > 1048576)))] ha fun a ha => ?_)))))
 refine jZ (jJ ?_)
 by_cases c3 : (rtl.n : Int) > 1048576
 ·
  refine jH ha rfl (decide_eq_true c3) ?_
  refine wp_seq (jX [0] (jY [(0, 4, .bool true)] ha fun a ha => ?_))
  refine jZ (jJ (wp_ret (qZ (qJ ha (by kernel_rfl) (qU (t := 4) ha rfl) ?_))))
  exact ⟨rfl, hS.below⟩
 refine jU ha rfl (decide_eq_false c3) ?_
 refine wp_skip (jJ (wp_seq (jX [0] (jY [(0, 5, iv 1048576)] ha fun a ha => ?_))))
 refine jZ (jJ (wp_seq (jX [0, 1, 2, 3] (xJ 20 ha (hS.blk 0 rfl) fun a ha => ?_))))
 refine jY [(1, 21, iv 1048576)] ha fun a ha => ?_
 refine jV (qX 22 (vs := [.agg #[.slice s0.A s0.n s0.c], iv 1048576]) ha (szProgram_sat hS (hr0.sat hS) (by omega) (by omega)) fun v4 w a hp5 ha => ?_)
 obtain ⟨rfl, hS⟩ := hp5
 refine jY [(3, 5, iv (szP l0 1048576))] ha fun a ha => ?_
 refine jZ (jJ (wp_seq (wp_seq (jX [0, 1] (jY [(0, 23, iv (szP l0 1048576)), (1, 24, .bool (decide ((szP l0 1048576) < 0)))] ha fun a ha => ?_)))))
 refine jZ (jJ ?_)
 by_cases c6 : (szP l0 1048576) < 0
 ·
  refine jH ha rfl (decide_eq_true c6) ?_
  refine wp_seq (jX [0] (jY [(0, 4, .bool true)] ha fun a ha => ?_))
  refine jZ (jJ (wp_ret (qZ (qJ ha (by kernel_rfl) (qU (t := 4) ha rfl) ?_))))
  exact ⟨rfl, hS.below⟩
 have hf0 : Fits l0 := by have h8 : 0 ≤ szP l0 1048576 := (by omega); have h9 := szP_ok l0 1048576 h8; exact ⟨by omega, by omega⟩
 have htp0 := (toP_fits hf0).tot
 have hz0 := szP_ok l0 1048576 (by omega)
 have hfr : Fits (renP (toP l0) tl).1 := renP_fits (toP_fits hf0) tl
 refine jU ha rfl (decide_eq_false c6) ?_
 refine wp_skip (jJ (wp_seq (jX [0, 1, 2, 3, 4, 5, 6, 7, 8, 9, 10] (xJ 26 ha (hS.blk 0 rfl) fun a ha => ?_))))
 refine jV (qX 27 (vs := [.agg #[.slice s0.A s0.n s0.c]]) ha (toProgram_sat hS (hr0.sat hS) hf0) fun v7 w a hp8 ha => ?_)
 obtain ⟨sp1, rfl, hS⟩ := hp8
 refine jY [(2, 28, .slice rtl.A rtl.n rtl.c)] ha fun a ha => ?_
 refine jV (qX 29 (vs := [.slice rtl.A rtl.n rtl.c]) ha (toIntS_sat hS (hrtl.sat hS) (by omega)) fun v9 w a hp10 ha => ?_)
 obtain ⟨o1, rfl, hS⟩ := hp10
 refine jV (qX 30 (vs := [.agg #[.slice sp1.A sp1.n sp1.c], .slice o1.A o1.n o1.c]) ha (spec_RenumberFunctions_sat hS (hS.rdS 1 rfl) (toP_fits hf0) (hS.rdRow (s := o1) 0 rfl)) fun v11 w a hp12 ha => ?_)
 obtain ⟨sp2, rfl, hS⟩ := hp12
 refine jY [(5, 25, .tuple #[.agg #[.slice sp2.A sp2.n sp2.c], .bool ((renP (toP l0) tl).2)]), (6, 31, .agg #[.slice sp2.A sp2.n sp2.c]), (7, 32, .bool ((renP (toP l0) tl).2))] ha fun a ha => ?_
 refine jV (qH 6 [.slice none 0 0] 30 (ptr · 0) ha hS fun b13 w a hb14 hS ha => ?_)
 refine jV (o_sa 0 ha (xW (t := 30) (x := 6) (y := 31)) hS fun w a hS ha => ?_)
 refine jY [(10, 7, .bool ((renP (toP l0) tl).2))] ha fun a ha => ?_
 refine jZ ?_
 replace ha := ha.as [(1, .slice rtl.A rtl.n rtl.c), (2, ptr b1 0), (4, .bool false), (6, ptr b13 0), (7, .bool ((renP (toP l0) tl).2))] rfl
 refine jJ (wp_seq (jX [0, 1, 2, 3] (xJ 33 ha (hS.blk 4 rfl) fun a ha => ?_)))
 refine jV (qX 34 (vs := [.agg #[.slice s0.A s0.n s0.c]]) ha (toProgram_sat hS (hr0.sat hS) hf0) fun v15 w a hp16 ha => ?_)
 obtain ⟨sp3, rfl, hS⟩ := hp16
 refine jV (qH 8 [.slice none 0 0] 30 (ptr · 0) ha hS fun b17 w a hb18 hS ha => ?_)
 refine jV (o_sa 0 ha (xW (t := 30) (x := 8) (y := 34)) hS fun w a hS ha => ?_)
 refine jZ (jJ (wp_seq (jX [0, 1, 2] (jY [(0, 35, .slice rtl.A rtl.n rtl.c)] ha fun a ha => ?_))))
 refine jV (qX 36 (vs := [.slice rtl.A rtl.n rtl.c]) ha (toIntS_sat hS (hrtl.sat hS) (by omega)) fun v19 w a hp20 ha => ?_)
 obtain ⟨o2, rfl, hS⟩ := hp20
 refine jY [(2, 9, .slice o2.A o2.n o2.c)] ha fun a ha => ?_
 refine jZ (jJ (wp_seq (jX [0, 1, 2, 3, 4, 5, 6, 7, 8] (xJ 38 ha (hS.blk 1 rfl) fun a ha => ?_))))
 refine jY [(1, 39, .slice o2.A o2.n o2.c)] ha fun a ha => ?_
 refine jV (qX 40 (vs := [.agg #[.slice sp3.A sp3.n sp3.c], .slice o2.A o2.n o2.c]) ha (impl_RenumberFunctions_sat hS (hS.rdS 2 rfl) (toP_fits hf0) (hS.rdRow (s := o2) 0 rfl)) fun v21 w a hp22 ha => ?_)
 obtain ⟨sp4, rfl, hS⟩ := hp22
 refine jY [(3, 37, .tuple #[.agg #[.slice sp4.A sp4.n sp4.c], .bool ((renP (toP l0) tl).2)]), (4, 41, .agg #[.slice sp4.A sp4.n sp4.c]), (5, 42, .bool ((renP (toP l0) tl).2))] ha fun a ha => ?_
 refine jV (qH 10 [.slice none 0 0] 30 (ptr · 0) ha hS fun b23 w a hb24 hS ha => ?_)
 refine jV (o_sa 0 ha (xW (t := 30) (x := 10) (y := 41)) hS fun w a hS ha => ?_)
 refine jY [(8, 11, .bool ((renP (toP l0) tl).2))] ha fun a ha => ?_
 refine jZ (jJ (wp_seq (wp_seq (jX [0, 1, 2, 3, 4, 5, 6, 7, 8] (xJ 43 ha (hS.blk 0 rfl) fun a ha => ?_)))))
 refine xJ 44 ha (hS.blk 5 rfl) fun a ha => ?_
 refine jV (qX 45 (vs := [.agg #[.slice sp4.A sp4.n sp4.c], .agg #[.slice sp2.A sp2.n sp2.c]]) ha (eqP_sat hS (hS.rdS 1 rfl) (hS.rdS 6 rfl) hfr) fun v25 w a hp26 ha => ?_)
 obtain ⟨rfl, hS⟩ := hp26
 refine jY [(3, 46, .bool false), (4, 47, .bool false), (5, 48, .bool ((renP (toP l0) tl).2)), (6, 49, .bool ((renP (toP l0) tl).2))] ha fun a ha => ?_
 refine qK (.bool false) ha ((jW (v := .bool (!(((renP (toP l0) tl).2) == ((renP (toP l0) tl).2)))) ha (AtG.here (gd := 47) ⟨(by kernel_rfl : ((jK Try.f6 11)[7]?).map spec = some ((Op.binOp BinOp.neq 4 (Operand.tmp 48) (Operand.tmp 49) 4), some 50, 4, some (4, false))), by kernel_rfl⟩ ha rfl) (by kernel_rfl) (fun _ => by kernel_rfl)).as (by simp)) fun a ha => ?_
 refine jY [(8, 51, .bool false)] ha fun a ha => ?_
 refine jZ (jJ ?_)
 refine jU ha rfl rfl ?_
 refine wp_skip (jJ (wp_seq (wp_seq (yX 5 5 (hS.pickN 10 [0, 3, 5, 9]) hS fun w hS => ?_))))
 refine zW 0 52 ha (hS.pickN 10 [0, 3, 5, 9]) (fun _ hw => hw.blk 1 rfl) fun a ha => ?_
 refine zW 1 53 ha (hS.pickN 10 [0, 3, 5, 9]) (fun _ hw => hw.blk 3 rfl) fun a ha => ?_
 refine xH 2 (qX 54 (vs := [.agg #[.slice s0.A s0.n s0.c]]) ha (toProgram_sat hS (hr0.sat hS) hf0) fun v27 w a hp28 ha => ?_)
 obtain ⟨sp5, rfl, hS⟩ := hp28
 refine ⟨.inr (hS.pickN 11 [1, 4, 6, 10]), ?_⟩
 refine xH 3 (qX 55 (vs := [.agg #[.slice sp3.A sp3.n sp3.c], .agg #[.slice sp5.A sp5.n sp5.c]]) ha (eqP_sat hS (hS.rdS 5 rfl) (hS.rdS 0 rfl) (toP_fits hf0)) fun v29 w a hp30 ha => ?_)
 obtain ⟨rfl, hS⟩ := hp30
 refine ⟨.inr (hS.pickN 11 [1, 4, 6, 10]), ?_⟩
 refine qY (k := 0) [(4, 56, .bool false)] ha (.inr (hS.pickN 11 [1, 4, 6, 10])) fun a ha => ?_
 refine yY ?_
 replace ha := ha.as [(1, .slice rtl.A rtl.n rtl.c), (2, ptr b1 0), (4, .bool false), (6, ptr b13 0), (7, .bool ((renP (toP l0) tl).2)), (8, ptr b17 0), (9, .slice o2.A o2.n o2.c), (10, ptr b23 0), (11, .bool ((renP (toP l0) tl).2)), (56, .bool false)] rfl
 refine jJ ?_
 refine jU ha rfl rfl ?_
 refine wp_skip (jJ (wp_seq (wp_seq (jX [0, 1, 2, 3, 4] (jY [(0, 57, .slice o2.A o2.n o2.c), (1, 58, .slice rtl.A rtl.n rtl.c)] ha fun a ha => ?_)))))
 refine jV (qX 59 (vs := [.slice rtl.A rtl.n rtl.c]) ha (toIntS_sat hS (hrtl.sat hS) (by omega)) fun v31 w a hp32 ha => ?_)
 obtain ⟨o3, rfl, hS⟩ := hp32
 refine jV (qX 60 (vs := [.slice o2.A o2.n o2.c, .slice o3.A o3.n o3.c]) ha (eqIntS_sat hS (hS.rdRow (s := o2) 4 rfl) (hS.rdRow (s := o3) 0 rfl)) fun v33 w a hp34 ha => ?_)
 obtain ⟨rfl, hS⟩ := hp34
 refine jY [(4, 61, .bool false)] ha fun a ha => ?_
 refine jZ (jJ ?_)
 refine jU ha rfl rfl ?_
 refine wp_skip (jJ (wp_seq (jX [0] (jY [(0, 12, iv 1)] ha fun a ha => ?_))))
 refine jZ (jJ (wp_seq (jX [0, 1, 2, 3] (xJ 62 ha (hS.blk 5 rfl) fun a ha => ?_))))
 refine jY [(1, 63, iv 1)] ha fun a ha => ?_
 replace hS := hS.pickN 12 [6, 0, 1, 2, 3, 4, 5, 7, 8, 9, 10, 11]
 refine jV (qX 64 (vs := [.agg #[.slice sp3.A sp3.n sp3.c], iv 1]) ha (markProgram_sat hS (toP_fits hf0) (by omega) (by omega)) fun v35 w a hp36 ha => ?_)
 obtain ⟨rfl, hS⟩ := hp36
 refine jY [(3, 12, iv (1 + 3 * (tot (toP l0) : Int)))] ha fun a ha => ?_
 refine jZ (jJ (wp_seq (jX [0, 1, 2, 3] (jY [(0, 65, .slice o2.A o2.n o2.c), (1, 66, iv (1 + 3 * (tot (toP l0) : Int)))] ha fun a ha => ?_))))
 replace hS := hS.pickN 12 [5, 0, 1, 2, 3, 4, 6, 7, 8, 9, 10, 11]
 refine jV (qX 67 (vs := [.slice o2.A o2.n o2.c, iv (1 + 3 * (tot (toP l0) : Int))]) ha (markG_sat hS (by omega) (by omega) (by omega)) fun v37 w a hp38 ha => ?_)
 obtain ⟨rfl, hS⟩ := hp38
 refine jY [(3, 12, iv ((1 + 3 * (tot (toP l0) : Int)) + (tl.length : Int)))] ha fun a ha => ?_
 refine jZ ?_
 replace ha := ha.as [(1, .slice rtl.A rtl.n rtl.c), (2, ptr b1 0), (4, .bool false), (6, ptr b13 0), (7, .bool ((renP (toP l0) tl).2)), (10, ptr b23 0), (11, .bool ((renP (toP l0) tl).2)), (12, iv ((1 + 3 * (tot (toP l0) : Int)) + (tl.length : Int)))] rfl
 refine jJ (wp_seq (wp_seq (jX [0, 1, 2, 3, 4, 5, 6, 7, 8, 9, 10, 11, 12] (jY [(0, 68, iv ((1 + 3 * (tot (toP l0) : Int)) + (tl.length : Int)))] ha fun a ha => ?_))))
 refine qK (.bool false) ha ((jW (v := .bool (decide ((1 + 3 * (tot (toP l0) : Int)) + (tl.length : Int) < 0))) ha (yG (op := (Op.binOp BinOp.lss 3 (Operand.tmp 68) (Operand.const (Value.int IntKind.i64 0)) 3)) (d := some 69) (ty := 4)) (by kernel_rfl) (fun _ => by kernel_rfl)).as (by rw [decide_eq_false (by omega)])) fun a ha => ?_
 refine jY [(2, 70, .bool false)] ha fun a ha => ?_
 refine xJ 71 ha (hS.blk 4 rfl) fun a ha => ?_
 refine xJ 72 ha (hS.blk 7 rfl) fun a ha => ?_
 refine jV (qX 73 (vs := [.agg #[.slice sp4.A sp4.n sp4.c], .agg #[.slice sp2.A sp2.n sp2.c]]) ha (eqP_sat hS (hS.rdS 5 rfl) (hS.rdS 8 rfl) hfr) fun v39 w a hp40 ha => ?_)
 obtain ⟨rfl, hS⟩ := hp40
 refine jY [(6, 74, .bool false), (7, 75, .bool false), (8, 76, .bool false), (9, 77, .bool ((renP (toP l0) tl).2)), (10, 78, .bool ((renP (toP l0) tl).2))] ha fun a ha => ?_
 refine qK (.bool false) ha ((jW (v := .bool (!(((renP (toP l0) tl).2) == ((renP (toP l0) tl).2)))) ha (AtG.here (gd := 76) ⟨(by kernel_rfl : ((jK Try.f6 20)[11]?).map spec = some ((Op.binOp BinOp.neq 4 (Operand.tmp 77) (Operand.tmp 78) 4), some 79, 4, some (8, false))), by kernel_rfl⟩ ha rfl) (by kernel_rfl) (fun _ => by kernel_rfl)).as (by simp)) fun a ha => ?_
 refine jY [(12, 80, .bool false)] ha fun a ha => ?_
 refine jZ (jJ ?_)
 refine jU ha rfl rfl ?_
 refine wp_skip (jJ (wp_seq (jX [0] (jY [(0, 13, iv 1)] ha fun a ha => ?_))))
 refine jZ (jJ (wp_seq (jX [0, 1, 2, 3] (xJ 81 ha (hS.blk 4 rfl) fun a ha => ?_))))
 refine jY [(1, 82, iv 1)] ha fun a ha => ?_
 replace hS := hS.pickN 12 [5, 0, 1, 2, 3, 4, 6, 7, 8, 9, 10, 11]
 refine jV (qX 83 (vs := [.agg #[.slice sp4.A sp4.n sp4.c], iv 1]) ha (markProgram_sat hS hfr (by omega) (by omega)) fun v41 w a hp42 ha => ?_)
 obtain ⟨rfl, hS⟩ := hp42
 refine jY [(3, 13, iv (1 + 3 * (tot ((renP (toP l0) tl).1) : Int)))] ha fun a ha => ?_
 refine jZ (jJ (wp_seq (jX [0] (jY [(0, 14, iv 1)] ha fun a ha => ?_))))
 refine jZ (jJ (wp_seq (jX [0, 1, 2, 3] (xJ 84 ha (hS.blk 5 rfl) fun a ha => ?_))))
 refine jY [(1, 85, iv 1)] ha fun a ha => ?_
 refine jV (qX 86 (vs := [.agg #[.slice sp4.A sp4.n sp4.c], iv 1]) ha (heldProgram_sat hS (hS.rdS 0 rfl) hfr) fun v43 w a hp44 ha => ?_)
 obtain ⟨rfl, hS⟩ := hp44
 refine jY [(3, 14, iv (1 + 3 * (tot ((renP (toP l0) tl).1) : Int)))] ha fun a ha => ?_
 refine jZ ?_
 replace ha := ha.as [(1, .slice rtl.A rtl.n rtl.c), (2, ptr b1 0), (4, .bool false), (6, ptr b13 0), (7, .bool ((renP (toP l0) tl).2)), (10, ptr b23 0), (13, iv (1 + 3 * (tot ((renP (toP l0) tl).1) : Int))), (14, iv (1 + 3 * (tot ((renP (toP l0) tl).1) : Int)))] rfl
 refine jJ (wp_seq (wp_seq (jX [0, 1] (jY [(0, 87, iv (1 + 3 * (tot ((renP (toP l0) tl).1) : Int)))] ha fun a ha => ?_))))
 refine qK (.bool false) ha ((jW (v := .bool (decide (1 + 3 * (tot ((renP (toP l0) tl).1) : Int) < 0))) ha (yG (op := (Op.binOp BinOp.lss 3 (Operand.tmp 87) (Operand.const (Value.int IntKind.i64 0)) 3)) (d := some 88) (ty := 4)) (by kernel_rfl) (fun _ => by kernel_rfl)).as (by rw [decide_eq_false (by omega)])) fun a ha => ?_
 refine jZ (jJ ?_)
 refine jU ha rfl rfl ?_
 refine wp_skip (jJ (wp_seq (wp_seq (jX [0, 1, 2] (jY [(0, 89, iv (1 + 3 * (tot ((renP (toP l0) tl).1) : Int))), (1, 90, iv (1 + 3 * (tot ((renP (toP l0) tl).1) : Int)))] ha fun a ha => ?_)))))
 refine qK (.bool false) ha ((jW (v := .bool (!(decide (1 + 3 * (tot ((renP (toP l0) tl).1) : Int) = 1 + 3 * (tot ((renP (toP l0) tl).1) : Int))))) ha (yG (op := (Op.binOp BinOp.neq 3 (Operand.tmp 89) (Operand.tmp 90) 3)) (d := some 91) (ty := 4)) (by kernel_rfl) (fun _ => by kernel_rfl)).as (by simp)) fun a ha => ?_
 refine jZ (jJ ?_)
 refine jU ha rfl rfl ?_
 refine wp_skip (jJ (wp_seq (jX [0, 1, 2, 3, 4, 5, 6, 7, 8, 9, 10] (xJ 93 ha (hS.blk 11 rfl) fun a ha => ?_))))
 refine jV (qX 94 (vs := [.agg #[.slice s0.A s0.n s0.c]]) ha (toProgram_sat hS (hr0.sat hS) hf0) fun v45 w a hp46 ha => ?_)
 obtain ⟨sp6, rfl, hS⟩ := hp46
 refine jY [(2, 95, .slice rtl.A rtl.n rtl.c)] ha fun a ha => ?_
 refine jV (qX 96 (vs := [.slice rtl.A rtl.n rtl.c]) ha (toIntS_sat hS (hrtl.sat hS) (by omega)) fun v47 w a hp48 ha => ?_)
 obtain ⟨o4, rfl, hS⟩ := hp48
 refine jV (qX 97 (vs := [.agg #[.slice sp6.A sp6.n sp6.c], .slice o4.A o4.n o4.c]) ha (impl_RenumberFunctions_sat hS (hS.rdS 1 rfl) (toP_fits hf0) (hS.rdRow (s := o4) 0 rfl)) fun v49 w a hp50 ha => ?_)
 obtain ⟨sp7, rfl, hS⟩ := hp50
 refine jY [(5, 92, .tuple #[.agg #[.slice sp7.A sp7.n sp7.c], .bool ((renP (toP l0) tl).2)]), (6, 98, .agg #[.slice sp7.A sp7.n sp7.c]), (7, 99, .bool ((renP (toP l0) tl).2))] ha fun a ha => ?_
 refine jV (qH 15 [.slice none 0 0] 30 (ptr · 0) ha hS fun b51 w a hb52 hS ha => ?_)
 refine jV (o_sa 0 ha (xW (t := 30) (x := 15) (y := 98)) hS fun w a hS ha => ?_)
 refine jY [(10, 16, .bool ((renP (toP l0) tl).2))] ha fun a ha => ?_
 refine jZ (jJ (wp_seq (wp_seq (jX [0, 1, 2, 3, 4, 5, 6, 7, 8] (xJ 100 ha (hS.blk 0 rfl) fun a ha => ?_)))))
 refine xJ 101 ha (hS.blk 11 rfl) fun a ha => ?_
 refine jV (qX 102 (vs := [.agg #[.slice sp7.A sp7.n sp7.c], .agg #[.slice sp2.A sp2.n sp2.c]]) ha (eqP_sat hS (hS.rdS 1 rfl) (hS.rdS 12 rfl) hfr) fun v53 w a hp54 ha => ?_)
 obtain ⟨rfl, hS⟩ := hp54
 refine jY [(3, 103, .bool false), (4, 104, .bool false), (5, 105, .bool ((renP (toP l0) tl).2)), (6, 106, .bool ((renP (toP l0) tl).2))] ha fun a ha => ?_
 refine qK (.bool false) ha ((jW (v := .bool (!(((renP (toP l0) tl).2) == ((renP (toP l0) tl).2)))) ha (AtG.here (gd := 104) ⟨(by kernel_rfl : ((jK Try.f6 31)[7]?).map spec = some ((Op.binOp BinOp.neq 4 (Operand.tmp 105) (Operand.tmp 106) 4), some 107, 4, some (4, false))), by kernel_rfl⟩ ha rfl) (by kernel_rfl) (fun _ => by kernel_rfl)).as (by simp)) fun a ha => ?_
 refine jY [(8, 108, .bool false)] ha fun a ha => ?_
 refine jZ ?_
 replace ha := ha.as [(4, .bool false), (10, ptr b23 0), (13, iv (1 + 3 * (tot ((renP (toP l0) tl).1) : Int))), (14, iv (1 + 3 * (tot ((renP (toP l0) tl).1) : Int))), (108, .bool false)] rfl
 refine jJ ?_
 refine jU ha rfl rfl ?_
 refine wp_skip (jJ (wp_seq (jX [0] (jY [(0, 14, iv 1)] ha fun a ha => ?_))))
 refine jZ (jJ (wp_seq (jX [0, 1, 2, 3] (xJ 109 ha (hS.blk 9 rfl) fun a ha => ?_))))
 refine jY [(1, 110, iv 1)] ha fun a ha => ?_
 refine jV (qX 111 (vs := [.agg #[.slice sp4.A sp4.n sp4.c], iv 1]) ha (heldProgram_sat hS (hS.rdS 4 rfl) hfr) fun v55 w a hp56 ha => ?_)
 obtain ⟨rfl, hS⟩ := hp56
 refine jY [(3, 14, iv (1 + 3 * (tot ((renP (toP l0) tl).1) : Int)))] ha fun a ha => ?_
 refine jZ (jJ (wp_seq (wp_seq (jX [0, 1] (jY [(0, 112, iv (1 + 3 * (tot ((renP (toP l0) tl).1) : Int)))] ha fun a ha => ?_)))))
 refine qK (.bool false) ha ((jW (v := .bool (decide (1 + 3 * (tot ((renP (toP l0) tl).1) : Int) < 0))) ha (yG (op := (Op.binOp BinOp.lss 3 (Operand.tmp 112) (Operand.const (Value.int IntKind.i64 0)) 3)) (d := some 113) (ty := 4)) (by kernel_rfl) (fun _ => by kernel_rfl)).as (by rw [decide_eq_false (by omega)])) fun a ha => ?_
 refine jZ (jJ ?_)
 refine jU ha rfl rfl ?_
 refine wp_skip (jJ (wp_seq (wp_seq (jX [0, 1, 2] (jY [(0, 114, iv (1 + 3 * (tot ((renP (toP l0) tl).1) : Int))), (1, 115, iv (1 + 3 * (tot ((renP (toP l0) tl).1) : Int)))] ha fun a ha => ?_)))))
 refine qK (.bool false) ha ((jW (v := .bool (!(decide (1 + 3 * (tot ((renP (toP l0) tl).1) : Int) = 1 + 3 * (tot ((renP (toP l0) tl).1) : Int))))) ha (yG (op := (Op.binOp BinOp.neq 3 (Operand.tmp 114) (Operand.tmp 115) 3)) (d := some 116) (ty := 4)) (by kernel_rfl) (fun _ => by kernel_rfl)).as (by simp)) fun a ha => ?_
 refine jZ (jJ ?_)
 refine jU ha rfl rfl ?_
 refine wp_skip (jJ (wp_seq (jX [0] (jY [(0, 4, .bool true)] ha fun a ha => ?_))))
 refine jZ (jJ (wp_ret (qJ ha (by kernel_rfl) (qU (t := 4) ha rfl) ?_)))
 exact ⟨rfl, hS.below⟩
end Go.Proofs.Ytpenhegoilccoaa.G
