/- What the claim FnExactLeakingArgs rests on, part 18 of 20; the last part proves it: for every input the law answers true, and its arguments read behind the call as before it. No condition. -/
import Derived.Shelf.Slices.Delete
import Derived.Shelf.Slices.Clone
import Derived.Lib.OwnBridge
import Derived.KernelRfl
import Derived.WalkKit
import Derived.Test.YtggahaddkoifkaaQLeakingArgs17
section
namespace Go.Proofs.Ytggahaddkoifkaa.G
open Go.RowKit Go.Shelf Go.Lib Go.Proofs.YtggahaddkoifkaaW.PrintWords Go.Proofs.YtggahaddkoifkaaW.PrintLast Go.Proofs.YtggahaddkoifkaaW.PrintMore Go.Proofs.Ytggahaddkoifkaa.SX
set_option linter.unusedVariables false
set_option linter.unusedSimpArgs false
def lDel_ren : Go.Shelf.Ren := ⟨fun | 23 => 142 | n => n, fun | 22 => 36 | 3 => 3 | 4 => 4 | 0 => 0 | n => n, fun | n => n⟩
theorem lDel : Lays2.n23 Try.prog lDel_ren where
 mixed := by kernel_rfl
 f23 := Try.func142.trans (congrArg some (by kernel_rfl))
 t0 := Try.underlying0
 a0 := Try.isAgg0
 z0 := Try.sizeOf0
 v0 := Try.zeroValue0
 t3 := Try.underlying3
 a3 := Try.isAgg3
 z3 := Try.sizeOf3
 v3 := Try.zeroValue3
 t4 := Try.underlying4
 a4 := Try.isAgg4
 z4 := Try.sizeOf4
 v4 := Try.zeroValue4
 t22 := Try.underlying36
 a22 := Try.isAgg36
 z22 := Try.sizeOf36
 v22 := Try.zeroValue36
 i3 := by kernel_rfl
def lClo_ren : Go.Shelf.Ren := ⟨fun | 15 => 123 | n => n, fun | 22 => 36 | 3 => 3 | 4 => 4 | n => n, fun | n => n⟩
theorem lClo : Lays2.n15 Try.prog lClo_ren where
 mixed := by kernel_rfl
 f15 := Try.func123.trans (congrArg some (by kernel_rfl))
 t3 := Try.underlying3
 a3 := Try.isAgg3
 z3 := Try.sizeOf3
 v3 := Try.zeroValue3
 t4 := Try.underlying4
 a4 := Try.isAgg4
 z4 := Try.sizeOf4
 v4 := Try.zeroValue4
 t22 := Try.underlying36
 a22 := Try.isAgg36
 z22 := Try.sizeOf36
 v22 := Try.zeroValue36
 i3 := by kernel_rfl
theorem clone_empty (ad : Addr) (c0 : Nat) (w : World) :
  Calls Try.prog 123 #[.slice (some ad) 0 c0] w fun e w' => ∃ v0_ : Value, e = .returned (v0_) ∧ Kd.R (Kd.int .i64) 3 w' w.heap.size (fun _ => True) v0_ [] ∧ Below w.heap.size w w' := by
 obtain ⟨i0, hi, hz0, hz1, hz2⟩ := info_parts (show (Try.prog.info? 3).map (fun i => (i.zero, i.size, i.bytes)) = some (some (.int .i64 0), 1, 8) by kernel_rfl)
 have q : ∀ (w : World) (a : Option Addr) (n c n' c' : Nat), (binOp .eql 36 (.slice a n c) (.slice none n' c')).run Try.prog w = .ok (.bool a.isNone) w := fun w a n c n' c' => Lib.run_eql_slice_nil w _ _ a n c n' c' Try.underlying36
 go_enter Try.func123, Try.ntmps123
 go_wp2_with (at_builtin; refine wpList_append_own _ rfl _ _ 36 rfl w.heap.size 3 i0 (.int .i64 0) 1 8 Try.underlying36 hi hz0 hz1 hz2 rfl (by decide) _ _ _ rfl (World.ownsRow_made w #[] 0 (Nat.le_refl _) (Nat.zero_le _) rfl) ad 0 c0 [] rfl ?qc1 ?qc2 ?qc3 ?qc4 ?qc5 ?qc6 ?_)
 case qc1 => simp
 case qc2 => intro j u hj; simp at hj
 case qc3 => intro u hu; cases hu
 case qc4 => simp
 case qc5 => simp
 case qc6 => simp
 intro v' w1 hown hgrow hnil
 go_wp2
 go_ret
 refine ⟨v', rfl, Kd.R_of_own (xs := []) (enc := Value.int .i64) (by simpa [encs] using hown) (fun _ _ => trivial), ?_⟩
 exact ((Below.refl _ w).alloc (Nat.le_refl _) _).grown hgrow (by simp) (by intro k hk; simp [Value.ownBlock] at hk; omega)
theorem clone_kd (s : Sl) (l : List Int) (w : World) (hr : RdI w s l) (hlen : l.length ≤ 1000000) :
    Calls Try.prog 123 #[.slice s.A s.n s.c] w fun e w' => ∃ v0_ : Value, e = .returned v0_ ∧ Kd.R (Kd.int .i64) 3 w' w.heap.size (fun _ => True) v0_ l ∧ Below w.heap.size w w' := by
  obtain ⟨A, n, c⟩ := s
  have hn : n = l.length := hr.len
  subst hn
  by_cases hl : l = []
  · subst hl
    cases A with
    | none => exact (Any.slices_Clone_int_nil lClo 0 c w).mono fun e w' ⟨h1, h2⟩ => ⟨_, h1, by subst h2; exact Kd.R_nil _ _ _ _ _, by subst h2; exact Below.refl _ _⟩
    | some ad => exact clone_empty ad c w
  · have hp : 0 < l.length := List.length_pos_iff.2 hl
    have hA := (hr.at_ hp).1
    dsimp only at hA
    rw [hA]
    refine (Any.slices_Clone_int lClo _ _ l.length c l w (Nat.le_refl _) (by omega) (fun j hj => (hr.at_ hj).2)).mono ?_
    rintro e w' ⟨v', rfl, hown, _, hb⟩
    rw [List.take_length] at hown
    exact ⟨v', rfl, Kd.R_of_own hown (fun _ _ => trivial), hb⟩
section
variable {w0 w : World} {Rs : List Asn} {s : Sl} {l : List Int}
theorem clone_sat (hS : Sat w0 w Rs) (hr : RdI w s l) (hlen : l.length ≤ 1000000) :
  Calls Try.prog 123 #[.slice s.A s.n s.c] w (Ret fun r w' => ∃ s' : Sl, r = .slice s'.A s'.n s'.c ∧ Sat w0 w' (SX.row (.slice s'.A s'.n s'.c) 3 1 (SX.encI l) :: Rs)) := by
 refine (clone_kd s l w hr hlen).mono ?_
 rintro e w' ⟨v, rfl, hR, hb⟩
 have ho := Kd.own_of_R hR
 obtain ⟨s', rfl, _⟩ := ownsRow_sl ho
 exact ⟨s', rfl, hS.made hb ho⟩
theorem delete_sat (hS : Sat w0 w (SX.row (.slice s.A s.n s.c) 3 1 (SX.encI l) :: Rs)) (i : Nat) (hi : i < l.length) (hlen : l.length ≤ 1000000) :
    Calls Try.prog 142 #[.slice s.A s.n s.c, .int .i64 (i : Int), .int .i64 ((i : Int) + 1)] w (Ret fun r w' => ∃ s' : Sl, r = .slice s'.A s'.n s'.c ∧ Sat w0 w' (SX.row (.slice s'.A s'.n s'.c) 3 1 (SX.encI (l.eraseIdx i)) :: Rs)) := by
  obtain ⟨n, hown⟩ := hS.row 0 rfl
  have hne : (.slice s.A s.n s.c : Value) ≠ .slice none 0 0 := by
    intro e
    rcases hown.2 with ⟨_, h0⟩ | ⟨g, cap, cur, e', _⟩
    · have := hown.1
      simp [SX.encI] at this
      omega
    · rw [e] at e'
      cases e'
  obtain ⟨g, cap, e0, _, hg, hcap, hmax, hl, hH⟩ := holds_of_ownsRow hown hne
  subst hl
  obtain ⟨A, sn, sc⟩ := s
  simp only [Value.slice.injEq] at e0
  obtain ⟨rfl, rfl, rfl⟩ := e0
  have h := Any.slices_Delete_int lDel g 0 sc i (i + 1) l w hH hcap (by simp only [maxLen] at hmax; omega) (by omega) (by omega)
  refine Calls.mono h ?_
  rintro e w' ⟨rfl, q, rfl⟩
  have he : (l.take i ++ l.drop (i + 1)) = l.eraseIdx i := (List.eraseIdx_eq_take_drop_succ l i).symm
  have hk : (l.eraseIdx i).length = l.length - 1 := by rw [List.length_eraseIdx]; simp [hi]
  have hz : (l.take i ++ l.drop (i + 1) ++ List.replicate (i + 1 - i) (0 : Int)).length = l.length := by
    rw [List.length_append, he, hk]
    simp
    omega
  have ho' := ownsRow_putRow (q := q) (k := l.length - 1) hown hz (Nat.sub_le _ _)
  refine ⟨⟨some ⟨g, 0, none⟩, l.length - 1, sc⟩, by simp, ?_⟩
  refine hS.upd (i := 0) (R := SX.row (.slice (some ⟨g, 0, none⟩) l.length sc) 3 1 (SX.encI l)) rfl (SX.row (.slice (some ⟨g, 0, none⟩) (l.length - 1) sc) 3 1 (SX.encI (l.eraseIdx i))) rfl rfl rfl (by simp [Go.Sort.putRow, Go.Sort.mapBlock, Go.Sort.ahead]) fun F hF => ⟨F, ⟨fun k => ?_, l.length - 1, ?_⟩, fun _ hb => .inl hb, fun b _ hF' => ?_⟩
  · rw [hF.1 k]
    simp [Value.ownBlock]
  · have e2 : SX.encI (l.eraseIdx i) = ((l.take i ++ l.drop (i + 1) ++ List.replicate (i + 1 - i) (0 : Int)).take (l.length - 1)).map (Value.int .i64) := by
      rw [he, ← hk, List.take_left']
      · rfl
      · rfl
    rw [e2]
    exact ho'
  · have hgb : g ≠ b := fun e => hF' ((hF.1 b).2 (by simp [Value.ownBlock, e]))
    simp [Go.Sort.putRow, Go.Sort.mapBlock, Go.Sort.ahead, Array.getElem?_modify, hgb]
end
def entryB (n : Int) : Bool := decide (-32767 ≤ n) && decide (n ≤ 32767)
def badE (l : List Int) : Bool := l.any fun n => !(entryB n)
def entriesB (l : List Int) : Bool := decide (l.length ≤ 60) && !(badE l)
def bkStep (o : List Int) (n : Int) : List Int := if 0 < n then o.erase (max n (-n)) ++ [n] else o.erase (max n (-n))
def bkBad (o : List Int) (n : Int) : Bool := decide (n ≠ 0) && (decide (0 < n) == o.contains (max n (-n)))
def bkOpens : List Int → List Int → List (List Int)
 | _, [] => []
 | o, n :: l => bkStep o n :: bkOpens (bkStep o n) l
def bkFaults : Int → List Int → List Int → List Int
 | _, _, [] => []
 | i, o, n :: l => (if bkBad o n then [i] else []) ++ bkFaults (i + 1) (bkStep o n) l
def bkLeft (l : List Int) : List Int := l.foldl bkStep []
theorem bkOpens_last : ∀ (l o : List Int), (o :: bkOpens o l).getLast? = some (l.foldl bkStep o)
 | [], o => rfl
 | n :: l, o => by
  rw [bkOpens, List.getLast?_cons_cons]
  exact bkOpens_last l (bkStep o n)
theorem bkOpens_len : ∀ (l o : List Int), (bkOpens o l).length = l.length
 | [], _ => rfl
 | n :: l, o => congrArg (· + 1) (bkOpens_len l _)
theorem bkLeft_at {l : List Int} {n : Nat} (h : n + 1 = l.length) : (bkOpens [] l)[n]? = some (bkLeft l) := by
 have h1 := bkOpens_last l []
 rw [List.getLast?_eq_getElem?] at h1
 simp only [List.length_cons, bkOpens_len] at h1
 rw [show l.length + 1 - 1 = n + 1 by omega] at h1
 unfold bkLeft; simpa using h1
theorem bkLeft_nil {l : List Int} (h : l.length = 0) : bkLeft l = [] := by rw [List.length_eq_zero_iff.1 h]; rfl
theorem bkStep_zero {o : List Int} (h : ∀ x ∈ o, 0 < x) : bkStep o 0 = o := by
 unfold bkStep
 rw [if_neg (by omega)]
 exact List.erase_of_not_mem fun hm => by have := h _ hm; omega
theorem bkStep_pos {o : List Int} {n : Int} (h : ∀ x ∈ o, 0 < x) : ∀ x ∈ bkStep o n, 0 < x := by
  intro x hx
  unfold bkStep at hx
  split at hx
  · rcases List.mem_append.1 hx with hx | hx
    · exact h x (List.mem_of_mem_erase hx)
    · rw [List.mem_singleton.1 hx]; assumption
  · exact h x (List.mem_of_mem_erase hx)
theorem bkStep_nodup {o : List Int} {n : Int} (h : o.Nodup) : (bkStep o n).Nodup := by
  unfold bkStep
  split
  · rename_i hn
    have hm : max n (-n) = n := by omega
    rw [hm]
    refine List.nodup_append.2 ⟨h.erase n, List.nodup_cons.2 ⟨by simp, List.nodup_nil⟩, ?_⟩
    intro a ha b hb e
    rw [List.mem_singleton.1 hb] at e
    subst e
    exact h.not_mem_erase ha
  · exact h.erase _
theorem bkStep_eq1 {o : List Int} {n : Int} (hn : n > 0) (h : o.Nodup) : o.filter (fun y => y != max n (-n)) ++ [max n (-n)] = bkStep o n := by
 unfold bkStep
 have hm : max n (-n) = n := by omega
 rw [if_pos hn, h.erase_eq_filter, hm]
theorem bkStep_eq2 {o : List Int} {n : Int} (hn : ¬ n > 0) (h : o.Nodup) : o.filter (fun y => y != max n (-n)) = bkStep o n := by
 unfold bkStep
 rw [if_neg hn, h.erase_eq_filter]
theorem bkStep_length {o : List Int} {n : Int} {i : Nat} (h : o.length ≤ i) : (bkStep o n).length ≤ i + 1 := by
 unfold bkStep
 have := List.length_erase_le (a := max n (-n)) (l := o)
 split
 · rw [List.length_append]; simp; omega
 · omega
theorem bkFold_length : ∀ (l o : List Int) {i : Nat}, o.length ≤ i → (l.foldl bkStep o).length ≤ i + l.length
 | [], _, _, h => h
 | n :: l, o, i, h => by
  have := bkFold_length l (bkStep o n) (bkStep_length h)
  simp only [List.foldl_cons, List.length_cons] at *
  omega
theorem bkLeft_len (l : List Int) : (bkLeft l).length ≤ l.length := by
 have := bkFold_length l [] (i := 0) (Nat.le_refl _)
 rw [Nat.zero_add] at this
 exact this
def idxI (l : List Int) (x : Int) : Int := if x ∈ l then (l.idxOf x : Int) else -1
theorem idxI_mem {l : List Int} {x : Int} : idxI l x ≥ 0 ↔ x ∈ l := by unfold idxI; split <;> simp_all <;> omega
theorem idxI_le (l : List Int) (x : Int) : -1 ≤ idxI l x ∧ idxI l x ≤ l.length := by
  unfold idxI
  split
  · rename_i h
    have := List.idxOf_lt_length_of_mem h
    omega
  · omega
theorem idxI_no {l : List Int} {x : Int} (h : x ∉ l) : idxI l x = -1 := if_neg h
theorem idxI_yes {l : List Int} {x : Int} {i : Nat} (hi : l[i]? = some x) (hn : x ∉ l.take i) : idxI l x = (i : Int) := by
 have hlt := (List.getElem?_eq_some_iff.1 hi).1
 have hx := (List.getElem?_eq_some_iff.1 hi).2
 rw [idxI, if_pos (List.mem_of_getElem? hi)]
 congr 1
 have h1 : l = l.take i ++ l[i] :: l.drop (i + 1) := by
  rw [List.getElem_cons_drop hlt, List.take_append_drop]
 have h2 : (l.take i ++ l[i] :: l.drop (i + 1)).idxOf x = i := by
  rw [List.idxOf_append, if_neg hn, hx, List.idxOf_cons_self, List.length_take]
  omega
 rw [← h1] at h2
 exact h2
theorem bkT_not {l : List Int} {x y : Int} {i : Nat} (hi : l[i]? = some y) (hn : x ∉ l.take i) (h : ¬ x = y) : x ∉ l.take (i + 1) := by
 rw [List.take_add_one, hi]
 simp only [Option.toList, List.mem_append, List.mem_singleton]
 rintro (h1 | h1)
 · exact hn h1
 · exact h h1
theorem bkT_all {l : List Int} {x : Int} {i : Nat} (hi : l.length ≤ i) (hn : x ∉ l.take i) : x ∉ l := by rwa [List.take_of_length_le hi] at hn
theorem filt_next {l : List Int} {x y : Int} {i : Nat} (hi : l[i]? = some y) : (l.take (i + 1)).filter (fun z => z != x) = (l.take i).filter (fun z => z != x) ++ (if y = x then [] else [y]) := by
 rw [List.take_add_one, hi, List.filter_append]
 by_cases h : y = x
 · rw [if_pos h]; simp [h]
 · rw [if_neg h]; simp [h]
theorem filt_len {l : List Int} {x : Int} {i : Nat} : ((l.take i).filter (fun z => z != x)).length ≤ i := Nat.le_trans (List.length_filter_le _ _) (by rw [List.length_take]; omega)
theorem badE_yes {l : List Int} {n : Nat} {x : Int} (hx : l[n]? = some x) (h : entryB x = false) : badE l = true := by
 unfold badE; rw [List.any_eq_true]; exact ⟨x, List.mem_of_getElem? hx, by rw [h]; rfl⟩
theorem badE_no {l : List Int} {n : Nat} (h : ∀ (j : Nat) (x : Int), j < n → l[j]? = some x → entryB x = true) (hn : l.length ≤ n) : badE l = false := by
 unfold badE; rw [List.any_eq_false]; intro x hx
 obtain ⟨j, hj⟩ := List.getElem?_of_mem hx
 rw [h j x (by have := (List.getElem?_eq_some_iff.1 hj).1; omega) hj]; decide
theorem allE {l : List Int} {n : Nat} {y : Int} (hy : l[n]? = some y) (hall : ∀ (j : Nat) (x : Int), j < n → l[j]? = some x → entryB x = true) (h : entryB y = true) : ∀ (j : Nat) (x : Int), j < n + 1 → l[j]? = some x → entryB x = true := by
 intro j x hj hx
 by_cases he : j = n
 · subst he; rw [hy] at hx; cases hx; exact h
 · exact hall j x (by omega) hx
theorem entries_at {l : List Int} (h : entriesB l = true) : l.length ≤ 60 ∧ ∀ x ∈ l, -32767 ≤ x ∧ x ≤ 32767 := by
 simp only [entriesB, badE, Bool.and_eq_true, decide_eq_true_eq, Bool.not_eq_true', List.any_eq_false] at h
 refine ⟨h.1, fun x hx => ?_⟩
 have := h.2 x hx
 simpa [entryB] using this
end Go.Proofs.Ytggahaddkoifkaa.G
end
section
namespace Go.Proofs.Ytggahaddkoifkaa.G
open Go.RowKit Go.Proofs.Ytggahaddkoifkaa.SX Go.Proofs.YtggahaddkoifkaaW.PrintWords Go.Proofs.YtggahaddkoifkaaW.PrintLast Go.Proofs.YtggahaddkoifkaaW.PrintMore
set_option linter.unusedVariables false
set_option linter.unusedSimpArgs false
theorem code141 : Try.f141.body = some (Code.seq (cr Try.f141 0 false) (Code.seq (Code.seq (cr Try.f141 1 false) (Code.block 0 (Code.loop (Code.seq (cr Try.f141 2 false) (Code.seq (Code.cond (Operand.tmp 9) Code.skip (Code.exit 0)) (Code.seq (Code.block 1 (Code.seq (cr Try.f141 3 false) (Code.seq (cr Try.f141 4 false) (Code.cond (Operand.tmp 16) (Code.seq (cr Try.f141 5 false) Code.ret) Code.skip)))) (cr Try.f141 6 false))))))) (Code.seq (cr Try.f141 7 false) Code.ret))) := by kernel_rfl
set_option maxRecDepth 20000 in
set_option maxHeartbeats 1000000 in
theorem bidx_sat0 {w0 : World} {se : Sl} {es : List Int} {x : Int} (hre : RdI w0 se es) :
  Calls Try.prog 141 #[.slice se.A se.n se.c, iv x] w0 (Ret fun r w' => r = .int .i64 (idxI es x) ∧ Sat w0 w' []) := by
 have hS : Sat w0 w0 [] := Sat.start w0
 have hel := hre.len
 have hbig := hre.big
 refine enter (n := 19) Try.func141 code141 (by kernel_rfl) (Nat.le_of_ble_eq_true rfl) (fun a ha => ?_)
 replace ha : Has 19 [(0, .slice se.A se.n se.c), (1, iv x)] a := ha
 refine wp_seq (jY [0] (jX [(0, 4, iv 0)] ha fun a ha => ?_))
 refine jK (jQ (wp_seq (wp_seq (jY [0, 1, 2] (jX [(0, 6, .slice se.A se.n se.c), (1, 7, iv (se.n : Int)), (2, 8, iv 0)] ha fun a ha => ?_)))))
 refine jK (jQ (wp_block ?_))
 refine wp_loop_ghost (fun n_ a_ w_ => ∃ (i : Nat), n_ = es.length - i ∧ (i ≤ es.length) ∧ (x ∉ es.take i) ∧ Has 19 [(0, .slice se.A se.n se.c), (1, iv x), (7, iv (se.n : Int)), (8, iv (i : Int))] a_ ∧ Sat w0 w_ ([])) _ ⟨0, rfl, Nat.zero_le _, by simp, ha.keeps [0, 1, 7, 8] _ rfl, hS⟩ ?_
 rintro n_ a w ⟨i, rfl, hi, hno, ha, hS⟩
 refine wp_seq (jY [0] (jX [(0, 9, .bool (decide ((i : Int) < (se.n : Int))))] ha fun a ha => ?_))
 refine jK (jQ (wp_seq ?_))
 by_cases c1 : (i : Int) < (se.n : Int)
 ·
  have hlt : i < es.length := by omega
  obtain ⟨x9, hx9⟩ : ∃ x, es[i]? = some x := ⟨_, List.getElem?_eq_getElem hlt⟩
  refine qX ha rfl (decide_eq_true c1) ?_
  refine wp_skip (jQ (wp_seq (wp_block (wp_seq (jY [0, 1] (jX [(0, 10, iv (i : Int)), (1, 5, iv (i : Int))] ha fun a ha => ?_))))))
  refine jK (jQ (wp_seq (jY [0, 1, 2, 3, 4, 5] (jX [(0, 11, iv x), (1, 12, .slice se.A se.n se.c), (2, 13, iv (i : Int))] ha fun a ha => ?_))))
  refine yZ (.pointer (some ⟨bk se, of_ se + i * 1, none⟩)) ha (zU (el := 3) (sz := 1) (j := i) ha (yG (t := 36) (x := 12) (y := 13) (d := 14)) rfl rfl (by kernel_rfl) (by kernel_rfl) ((hre.sat hS).at_ ((List.getElem?_eq_some_iff.1 hx9).1)).1 (by rw [((hre.sat hS)).len]; exact (List.getElem?_eq_some_iff.1 hx9).1)) fun a ha => ?_
  refine yZ (iv x9) ha (zZ (p := ⟨bk se, of_ se + i * 1, none⟩) ha (kJ (t := 3) (x := 14) (d := 15) (ty := 3)) rfl (by kernel_rfl) (fun w' hw => by rw [hw, Nat.mul_one, ← getD_of hx9]; exact ((hre.sat hS).at_ ((List.getElem?_eq_some_iff.1 hx9).1)).2)) fun a ha => ?_
  refine jX [(5, 16, .bool (decide (x = x9)))] ha fun a ha => ?_
  refine jK (jQ ?_)
  by_cases c2 : x = x9
  ·
   refine qX ha rfl (decide_eq_true c2) ?_
   refine wp_seq (jY [0, 1] (jX [(0, 17, iv (i : Int)), (1, 4, iv (i : Int))] ha fun a ha => ?_))
   refine jK (jQ (wp_ret (in_r (xJ (xJ (in_r (xJ (qU ha (by kernel_rfl) (xK (t := 4) ha rfl) ?_))))))))
   have hE : idxI es x = (i : Int) := idxI_yes (by rw [c2]; exact hx9) hno
   rw [hE]
   exact ⟨rfl, hS⟩
  refine jG ha rfl (decide_eq_false c2) ?_
  refine wp_skip (in_n (jQ (jY [0, 1] (zK 18 ((i : Int) + 1) ha fun a ha => ?_))))
  refine jX [(1, 8, iv ((i : Int) + 1))] ha fun a ha => ?_
  refine jK (jQ ?_)
  exact ⟨_, by omega, i + 1, rfl, by omega, bkT_not hx9 hno c2, ha.keeps [0, 1, 7, 8] _ rfl, hS⟩
 refine jG ha rfl (decide_eq_false c1) ?_
 refine wp_exit (yQ (yQ (in_x (jQ (wp_seq (jY [0] (jX [(0, 4, iv (-1))] ha fun a ha => ?_)))))))
 refine jK (jQ (wp_ret (qU ha (by kernel_rfl) (xK (t := 4) ha rfl) ?_)))
 have hE : idxI es x = (-1) := idxI_no (bkT_all (by omega) hno)
 rw [hE]
 exact ⟨rfl, hS⟩
theorem bidx_sat {w0 w : World} {Rs : List Asn} {se : Sl} {es : List Int} {x : Int} (hS : Sat w0 w Rs) (hre : RdI w se es) :
  Calls Try.prog 141 #[.slice se.A se.n se.c, iv x] w (Ret fun r w' => r = .int .i64 (idxI es x) ∧ Sat w0 w' Rs) := lift0 hS (bidx_sat0 hre)
theorem index_sat {w0 w : World} {Rs : List Asn} {s : Sl} {l : List Int} (hS : Sat w0 w Rs) (hr : RdI w s l) (_ : l.length ≤ 1000000) (x : Int) :
  Calls Try.prog 141 #[.slice s.A s.n s.c, .int .i64 x] w (Ret fun r w' => r = .int .i64 (idxI l x) ∧ Sat w0 w' Rs) := bidx_sat hS hr
theorem code117 : Try.f117.body = some (Code.seq (cr Try.f117 0 false) (Code.seq (Code.seq (cr Try.f117 1 false) (Code.cond (Operand.tmp 7) (Code.seq (cr Try.f117 2 false) Code.ret) Code.skip)) (Code.seq (cr Try.f117 3 false) Code.ret))) := by kernel_rfl
set_option maxRecDepth 20000 in
set_option maxHeartbeats 1000000 in
theorem most_sat {w0 w : World} {Rs : List Asn} (hS : Sat w0 w Rs) (x y : Int) :
  Calls Try.prog 117 #[.int .i64 x, .int .i64 y] w (Ret fun r w' => r = .int .i64 (max x y) ∧ Sat w0 w' Rs) := by
 refine enter (n := 10) Try.func117 code117 (by kernel_rfl) (Nat.le_of_ble_eq_true rfl) (fun a ha => ?_)
 replace ha : Has 10 [(0, iv x), (1, iv y)] a := ha
 refine wp_seq (jY [0] (jX [(0, 4, iv 0)] ha fun a ha => ?_))
 refine jK (jQ (wp_seq (wp_seq (jY [0, 1, 2] (jX [(0, 5, iv x), (1, 6, iv y), (2, 7, .bool (decide (x > y)))] ha fun a ha => ?_)))))
 refine jK (jQ ?_)
 by_cases c1 : x > y
 ·
  refine qX ha rfl (decide_eq_true c1) ?_
  refine wp_seq (jY [0, 1] (jX [(0, 8, iv x), (1, 4, iv x)] ha fun a ha => ?_))
  refine jK (jQ (wp_ret (xJ (qU ha (by kernel_rfl) (xK (t := 4) ha rfl) ?_))))
  have hE : max x y = x := by omega
  rw [hE]
  exact ⟨rfl, hS⟩
 refine jG ha rfl (decide_eq_false c1) ?_
 refine wp_skip (jQ (wp_seq (jY [0, 1] (jX [(0, 9, iv y), (1, 4, iv y)] ha fun a ha => ?_))))
 refine jK (jQ (wp_ret (qU ha (by kernel_rfl) (xK (t := 4) ha rfl) ?_)))
 have hE : max x y = y := by omega
 rw [hE]
 exact ⟨rfl, hS⟩
theorem code118 : Try.f118.body = some (Code.seq (cr Try.f118 0 false) (Code.seq (Code.seq (cr Try.f118 1 false) (Code.block 0 (Code.loop (Code.seq (Code.seq (cr Try.f118 2 false) (Code.cond (Operand.tmp 9) Code.skip (Code.exit 0))) (Code.seq (Code.block 1 (Code.seq (cr Try.f118 4 false) (Code.cond (Operand.tmp 17) (Code.seq (cr Try.f118 5 false) Code.ret) Code.skip))) (cr Try.f118 3 false)))))) (Code.seq (cr Try.f118 6 false) Code.ret))) := by kernel_rfl
set_option maxRecDepth 20000 in
set_option maxHeartbeats 1000000 in
theorem bhas_sat0 {w0 : World} {se : Sl} {es : List Int} {x : Int} (hre : RdI w0 se es) :
  Calls Try.prog 118 #[.slice se.A se.n se.c, iv x] w0 (Ret fun r w' => r = .bool (es.contains x) ∧ Sat w0 w' []) := by
 have hS : Sat w0 w0 [] := Sat.start w0
 have hel := hre.len
 have hbig := hre.big
 refine enter (n := 18) Try.func118 code118 (by kernel_rfl) (Nat.le_of_ble_eq_true rfl) (fun a ha => ?_)
 replace ha : Has 18 [(0, .slice se.A se.n se.c), (1, iv x)] a := ha
 refine wp_seq (jY [0] (jX [(0, 4, .bool false)] ha fun a ha => ?_))
 refine jK (jQ (wp_seq (wp_seq (jY [0] (jX [(0, 5, iv 0)] ha fun a ha => ?_)))))
 refine jK (jQ (wp_block ?_))
 refine wp_loop_ghost (fun n_ a_ w_ => ∃ (i : Nat), n_ = es.length - i ∧ (i ≤ es.length) ∧ (x ∉ es.take i) ∧ Has 18 [(0, .slice se.A se.n se.c), (1, iv x), (5, iv (i : Int))] a_ ∧ Sat w0 w_ ([])) _ ⟨0, rfl, Nat.zero_le _, by simp, ha.keeps [0, 1, 5] _ rfl, hS⟩ ?_
 rintro n_ a w ⟨i, rfl, hi, hno, ha, hS⟩
 refine wp_seq (wp_seq (jY [0, 1, 2, 3] (jX [(0, 6, iv (i : Int)), (1, 7, .slice se.A se.n se.c), (2, 8, iv (se.n : Int)), (3, 9, .bool (decide ((i : Int) < (se.n : Int))))] ha fun a ha => ?_)))
 refine jK (jQ ?_)
 by_cases c1 : (i : Int) < (se.n : Int)
 ·
  have hlt : i < es.length := by omega
  obtain ⟨x9, hx9⟩ : ∃ x, es[i]? = some x := ⟨_, List.getElem?_eq_getElem hlt⟩
  refine qX ha rfl (decide_eq_true c1) ?_
  refine wp_skip (jQ (wp_seq (wp_block (wp_seq (jY [0, 1, 2, 3, 4, 5] (jX [(0, 12, .slice se.A se.n se.c), (1, 13, iv (i : Int))] ha fun a ha => ?_))))))
  refine yZ (.pointer (some ⟨bk se, of_ se + i * 1, none⟩)) ha (zU (el := 3) (sz := 1) (j := i) ha (yG (t := 36) (x := 12) (y := 13) (d := 14)) rfl rfl (by kernel_rfl) (by kernel_rfl) ((hre.sat hS).at_ ((List.getElem?_eq_some_iff.1 hx9).1)).1 (by rw [((hre.sat hS)).len]; exact (List.getElem?_eq_some_iff.1 hx9).1)) fun a ha => ?_
  refine yZ (iv x9) ha (zZ (p := ⟨bk se, of_ se + i * 1, none⟩) ha (kJ (t := 3) (x := 14) (d := 15) (ty := 3)) rfl (by kernel_rfl) (fun w' hw => by rw [hw, Nat.mul_one, ← getD_of hx9]; exact ((hre.sat hS).at_ ((List.getElem?_eq_some_iff.1 hx9).1)).2)) fun a ha => ?_
  refine jX [(4, 16, iv x), (5, 17, .bool (decide (x9 = x)))] ha fun a ha => ?_
  refine jK (jQ ?_)
  by_cases c2 : x9 = x
  ·
   refine qX ha rfl (decide_eq_true c2) ?_
   refine wp_seq (jY [0] (jX [(0, 4, .bool true)] ha fun a ha => ?_))
   refine jK (jQ (wp_ret (in_r (xJ (xJ (in_r (xJ (qU ha (by kernel_rfl) (xK (t := 4) ha rfl) ?_))))))))
   have hE : es.contains x = true := List.contains_iff_mem.2 (by rw [← c2]; exact List.mem_of_getElem? hx9)
   rw [hE]
   exact ⟨rfl, hS⟩
  refine jG ha rfl (decide_eq_false c2) ?_
  refine wp_skip (in_n (jQ (jY [0, 1, 2] (jX [(0, 10, iv (i : Int))] ha fun a ha => ?_))))
  refine zK 11 ((i : Int) + 1) ha fun a ha => ?_
  refine jX [(2, 5, iv ((i : Int) + 1))] ha fun a ha => ?_
  refine jK (jQ ?_)
  exact ⟨_, by omega, i + 1, rfl, by omega, bkT_not hx9 hno (fun h9 => c2 h9.symm), ha.keeps [0, 1, 5] _ rfl, hS⟩
 refine jG ha rfl (decide_eq_false c1) ?_
 refine wp_exit (yQ (yQ (in_x (jQ (wp_seq (jY [0] (jX [(0, 4, .bool false)] ha fun a ha => ?_)))))))
 refine jK (jQ (wp_ret (qU ha (by kernel_rfl) (xK (t := 4) ha rfl) ?_)))
 have hE : es.contains x = false := Bool.eq_false_iff.2 fun h9 => bkT_all (by omega) hno (List.contains_iff_mem.1 h9)
 rw [hE]
 exact ⟨rfl, hS⟩
theorem bhas_sat {w0 w : World} {Rs : List Asn} {se : Sl} {es : List Int} {x : Int} (hS : Sat w0 w Rs) (hre : RdI w se es) :
  Calls Try.prog 118 #[.slice se.A se.n se.c, iv x] w (Ret fun r w' => r = .bool (es.contains x) ∧ Sat w0 w' Rs) := lift0 hS (bhas_sat0 hre)
theorem has_sat {w0 w : World} {Rs : List Asn} {s : Sl} {l : List Int} (hS : Sat w0 w Rs) (hr : RdI w s l) (_ : l.length ≤ 1000000) (x : Int) :
  Calls Try.prog 118 #[.slice s.A s.n s.c, .int .i64 x] w (Ret fun r w' => r = .bool (l.contains x) ∧ Sat w0 w' Rs) := bhas_sat hS hr
theorem code119 : Try.f119.body = some (Code.seq (cr Try.f119 0 false) (Code.seq (cr Try.f119 1 false) (Code.seq (Code.seq (cr Try.f119 2 false) (Code.block 0 (Code.loop (Code.seq (Code.seq (cr Try.f119 3 false) (Code.cond (Operand.tmp 11) Code.skip (Code.exit 0))) (Code.seq (Code.block 1 (Code.seq (cr Try.f119 5 false) (Code.cond (Operand.tmp 19) (cr Try.f119 6 false) Code.skip))) (cr Try.f119 4 false)))))) (Code.seq (cr Try.f119 7 false) Code.ret)))) := by kernel_rfl
set_option maxRecDepth 20000 in
set_option maxHeartbeats 1000000 in
theorem bdrop_sat0 {w0 : World} {se : Sl} {es : List Int} {x : Int} (hre : RdI w0 se es) (hlen : es.length ≤ 1000000) :
  Calls Try.prog 119 #[.slice se.A se.n se.c, iv x] w0 (Ret fun r w' => ∃ o : Sl, r = .slice o.A o.n o.c ∧ Sat w0 w' (rI o (es.filter (fun z => z != x)) :: [])) := by
 have hS : Sat w0 w0 [] := Sat.start w0
 have hel := hre.len
 have hbig := hre.big
 refine enter (n := 28) Try.func119 code119 (by kernel_rfl) (Nat.le_of_ble_eq_true rfl) (fun a ha => ?_)
 replace ha : Has 28 [(0, .slice se.A se.n se.c), (1, iv x)] a := ha
 refine wp_seq (jY [0] (jX [(0, 4, .slice none 0 0)] ha fun a ha => ?_))
 refine jK (jQ (wp_seq (jY [0, 1] (jV (xQ 7 [] 3 (fun b => .slice (some ⟨b, 0, none⟩) 0 0) ha hS fun b1 w a hb2 hS ha => ?_)))))
 refine jX [(1, 5, .slice (some ⟨b1, 0, none⟩) 0 0)] ha fun a ha => ?_
 refine jK (jQ (wp_seq (wp_seq (jY [0] (jX [(0, 6, iv 0)] ha fun a ha => ?_)))))
 refine jK (jQ (wp_block ?_))
 replace hS := hS.blk0 1 0 rfl
 replace hS : Sat w0 w ((rI (⟨some ⟨b1, 0, none⟩, 0, 0⟩ : Sl) []) :: []) := hS
 refine wp_loop_ghost (fun n_ a_ w_ => ∃ (i : Nat) (o : Sl), n_ = es.length - i ∧ (i ≤ es.length) ∧ Has 28 [(0, .slice se.A se.n se.c), (1, iv x), (5, .slice o.A o.n o.c), (6, iv (i : Int))] a_ ∧ Sat w0 w_ ((rI o ((es.take i).filter (fun z => z != x))) :: [])) _ ⟨0, ⟨some ⟨b1, 0, none⟩, 0, 0⟩, rfl, Nat.zero_le _, ha.keeps [0, 1, 5, 6] _ rfl, hS⟩ ?_
 rintro n_ a w ⟨i, o, rfl, hi, ha, hS⟩
 refine wp_seq (wp_seq (jY [0, 1, 2, 3] (jX [(0, 8, iv (i : Int)), (1, 9, .slice se.A se.n se.c), (2, 10, iv (se.n : Int)), (3, 11, .bool (decide ((i : Int) < (se.n : Int))))] ha fun a ha => ?_)))
 refine jK (jQ ?_)
 by_cases c3 : (i : Int) < (se.n : Int)
 ·
  have hlt : i < es.length := by omega
  obtain ⟨x9, hx9⟩ : ∃ x, es[i]? = some x := ⟨_, List.getElem?_eq_getElem hlt⟩
  refine qX ha rfl (decide_eq_true c3) ?_
  refine wp_skip (jQ (wp_seq (wp_block (wp_seq (jY [0, 1, 2, 3, 4, 5] (jX [(0, 14, .slice se.A se.n se.c), (1, 15, iv (i : Int))] ha fun a ha => ?_))))))
  refine yZ (.pointer (some ⟨bk se, of_ se + i * 1, none⟩)) ha (zU (el := 3) (sz := 1) (j := i) ha (yG (t := 36) (x := 14) (y := 15) (d := 16)) rfl rfl (by kernel_rfl) (by kernel_rfl) ((hre.sat hS).at_ ((List.getElem?_eq_some_iff.1 hx9).1)).1 (by rw [((hre.sat hS)).len]; exact (List.getElem?_eq_some_iff.1 hx9).1)) fun a ha => ?_
  refine yZ (iv x9) ha (zZ (p := ⟨bk se, of_ se + i * 1, none⟩) ha (kJ (t := 3) (x := 16) (d := 17) (ty := 3)) rfl (by kernel_rfl) (fun w' hw => by rw [hw, Nat.mul_one, ← getD_of hx9]; exact ((hre.sat hS).at_ ((List.getElem?_eq_some_iff.1 hx9).1)).2)) fun a ha => ?_
  refine jX [(4, 18, iv x), (5, 19, .bool (!(decide (x9 = x))))] ha fun a ha => ?_
  refine jK (jQ ?_)
  by_cases c4 : x9 = x
  ·
   refine jG ha rfl (yH (decide_eq_true c4)) ?_
   refine wp_skip (in_n (jQ (jY [0, 1, 2] (jX [(0, 12, iv (i : Int))] ha fun a ha => ?_))))
   refine zK 13 ((i : Int) + 1) ha fun a ha => ?_
   refine jX [(2, 6, iv ((i : Int) + 1))] ha fun a ha => ?_
   refine jK (jQ ?_)
   replace hS : Sat w0 w ((rI o ((es.take i).filter (fun z => z != x))) :: []) := hS
   replace hS : Sat w0 w ((rI o ((es.take (i + 1)).filter (fun z => z != x))) :: []) := by rw [filt_next hx9, if_pos c4, List.append_nil]; exact hS
   exact ⟨_, by omega, i + 1, o, rfl, by omega, ha.keeps [0, 1, 5, 6] _ rfl, hS⟩
  refine qX ha rfl (kY (decide_eq_false c4)) ?_
  refine jY [0, 1, 2, 3, 4, 5, 6, 7] (jX [(0, 20, .slice o.A o.n o.c), (1, 21, .slice se.A se.n se.c), (2, 22, iv (i : Int))] ha fun a ha => ?_)
  refine yZ (.pointer (some ⟨bk se, of_ se + i * 1, none⟩)) ha (zU (el := 3) (sz := 1) (j := i) ha (yG (t := 36) (x := 21) (y := 22) (d := 23)) rfl rfl (by kernel_rfl) (by kernel_rfl) ((hre.sat hS).at_ ((List.getElem?_eq_some_iff.1 hx9).1)).1 (by rw [((hre.sat hS)).len]; exact (List.getElem?_eq_some_iff.1 hx9).1)) fun a ha => ?_
  refine yZ (iv x9) ha (zZ (p := ⟨bk se, of_ se + i * 1, none⟩) ha (kJ (t := 3) (x := 23) (d := 24) (ty := 3)) rfl (by kernel_rfl) (fun w' hw => by rw [hw, Nat.mul_one, ← getD_of hx9]; exact ((hre.sat hS).at_ ((List.getElem?_eq_some_iff.1 hx9).1)).2)) fun a ha => ?_
  refine jV (xQ 25 [iv x9] 3 (fun b => .slice (some ⟨b, 0, none⟩) 1 1) ha hS fun b5 w a hb6 hS ha => ?_)
  refine jV (zW (news := [iv x9]) (z := iv 0) (sz := 1) (bytes := 8) (T2 := 3) (xs' := SX.encI (((es.take i).filter (fun z => z != x)) ++ [x9])) 1 0 ha (by decide) (yU (op := (Op.call { callee := (Callee.builtin Builtin.append), args := #[(Operand.tmp 20), (Operand.tmp 25)], argTypes := #[36, 36] })) (d := some 26) (ty := 36)) rfl rfl (by kernel_rfl) (by kernel_rfl) rfl (by decide) hS rfl rfl (by simp) rfl (by rw [encI_length]; have h9 := filt_len (l := es) (x := x) (i := i); simp only [List.length_cons, List.length_nil]; omega) (by decide) (encI_snoc _ _) fun s10 w a hS hn11 ha => ?_)
  refine jX [(7, 5, .slice s10.A s10.n s10.c)] ha fun a ha => ?_
  refine jK (in_n (jQ (jY [0, 1, 2] (jX [(0, 12, iv (i : Int))] ha fun a ha => ?_))))
  refine zK 13 ((i : Int) + 1) ha fun a ha => ?_
  refine jX [(2, 6, iv ((i : Int) + 1))] ha fun a ha => ?_
  refine jK (jQ ?_)
  replace hS : Sat w0 w ((rI s10 (((es.take i).filter (fun z => z != x)) ++ [x9])) :: []) := hS.pickN 2 [1] (by decide) rfl
  replace hS : Sat w0 w ((rI s10 ((es.take (i + 1)).filter (fun z => z != x))) :: []) := by rw [filt_next hx9, if_neg c4]; exact hS
  exact ⟨_, by omega, i + 1, s10, rfl, by omega, ha.keeps [0, 1, 5, 6] _ rfl, hS⟩
 refine jG ha rfl (decide_eq_false c3) ?_
 refine wp_exit (yQ (yQ (in_x (jQ (wp_seq (jY [0, 1] (jX [(0, 27, .slice o.A o.n o.c), (1, 4, .slice o.A o.n o.c)] ha fun a ha => ?_)))))))
 refine jK (jQ (wp_ret (qU ha (by kernel_rfl) (xK (t := 4) ha rfl) ?_)))
 have hE : es.take i = es := List.take_of_length_le (by omega)
 rw [hE] at hS
 exact ⟨o, rfl, hS⟩
theorem bdrop_sat {w0 w : World} {Rs : List Asn} {se : Sl} {es : List Int} {x : Int} (hS : Sat w0 w Rs) (hre : RdI w se es) (hlen : es.length ≤ 1000000) :
  Calls Try.prog 119 #[.slice se.A se.n se.c, iv x] w (Ret fun r w' => ∃ o : Sl, r = .slice o.A o.n o.c ∧ Sat w0 w' (rI o (es.filter (fun z => z != x)) :: Rs)) :=
 (bdrop_sat0 hre hlen).mono fun e w' h => by
  cases e with
  | returned r => obtain ⟨o, h1, h2⟩ := h; exact ⟨o, h1, hS.comp h2⟩
  | _ => exact h.elim
theorem drop_sat {w0 w : World} {Rs : List Asn} {s : Sl} {l : List Int} (hS : Sat w0 w Rs) (hr : RdI w s l) (h : l.length ≤ 1000000) (x : Int) :
  Calls Try.prog 119 #[.slice s.A s.n s.c, .int .i64 x] w (Ret fun r w' => ∃ o : Sl, r = .slice o.A o.n o.c ∧ Sat w0 w' (rI o (l.filter (fun z => z != x)) :: Rs)) := bdrop_sat hS hr h
theorem code116 : Try.f116.body = some (Code.seq (cr Try.f116 0 false) (Code.seq (Code.seq (cr Try.f116 1 false) (Code.block 0 (Code.loop (Code.seq (Code.seq (cr Try.f116 2 false) (Code.cond (Operand.tmp 7) Code.skip (Code.exit 0))) (Code.seq (Code.block 1 (Code.seq (cr Try.f116 4 false) (Code.cond (Operand.tmp 15) (Code.seq (cr Try.f116 5 false) Code.ret) Code.skip))) (cr Try.f116 3 false)))))) (Code.seq (cr Try.f116 6 false) Code.ret))) := by kernel_rfl
set_option maxRecDepth 20000 in
set_option maxHeartbeats 1000000 in
theorem good_sat0 {w0 : World} {se : Sl} {es : List Int} (hre : RdI w0 se es) :
  Calls Try.prog 116 #[.slice se.A se.n se.c] w0 (Ret fun r w' => r = .bool (entriesB es) ∧ Sat w0 w' []) := by
 have hS : Sat w0 w0 [] := Sat.start w0
 have hel := hre.len
 have hbig := hre.big
 refine enter (n := 19) Try.func116 code116 (by kernel_rfl) (Nat.le_of_ble_eq_true rfl) (fun a ha => ?_)
 replace ha : Has 19 [(0, .slice se.A se.n se.c)] a := ha
 refine wp_seq (jY [0] (jX [(0, 2, .bool false)] ha fun a ha => ?_))
 refine jK (jQ (wp_seq (wp_seq (jY [0] (jX [(0, 3, iv 0)] ha fun a ha => ?_)))))
 refine jK (jQ (wp_block ?_))
 refine wp_loop_ghost (fun n_ a_ w_ => ∃ (i : Nat), n_ = es.length - i ∧ (i ≤ es.length) ∧ (∀ (j : Nat) (x : Int), j < i → es[j]? = some x → entryB x = true) ∧ Has 19 [(0, .slice se.A se.n se.c), (3, iv (i : Int))] a_ ∧ Sat w0 w_ ([])) _ ⟨0, rfl, Nat.zero_le _, (fun j x hj => by omega), ha.keeps [0, 3] _ rfl, hS⟩ ?_
 rintro n_ a w ⟨i, rfl, hi, hall, ha, hS⟩
 refine wp_seq (wp_seq (jY [0, 1, 2, 3] (jX [(0, 4, iv (i : Int)), (1, 5, .slice se.A se.n se.c), (2, 6, iv (se.n : Int)), (3, 7, .bool (decide ((i : Int) < (se.n : Int))))] ha fun a ha => ?_)))
 refine jK (jQ ?_)
 by_cases c1 : (i : Int) < (se.n : Int)
 ·
  have hlt : i < es.length := by omega
  obtain ⟨x9, hx9⟩ : ∃ x, es[i]? = some x := ⟨_, List.getElem?_eq_getElem hlt⟩
  refine qX ha rfl (decide_eq_true c1) ?_
  refine wp_skip (jQ (wp_seq (wp_block (wp_seq (jY [0, 1, 2, 3, 4, 5] (jX [(0, 10, .slice se.A se.n se.c), (1, 11, iv (i : Int))] ha fun a ha => ?_))))))
  refine yZ (.pointer (some ⟨bk se, of_ se + i * 1, none⟩)) ha (zU (el := 3) (sz := 1) (j := i) ha (yG (t := 36) (x := 10) (y := 11) (d := 12)) rfl rfl (by kernel_rfl) (by kernel_rfl) ((hre.sat hS).at_ ((List.getElem?_eq_some_iff.1 hx9).1)).1 (by rw [((hre.sat hS)).len]; exact (List.getElem?_eq_some_iff.1 hx9).1)) fun a ha => ?_
  refine yZ (iv x9) ha (zZ (p := ⟨bk se, of_ se + i * 1, none⟩) ha (kJ (t := 3) (x := 12) (d := 13) (ty := 3)) rfl (by kernel_rfl) (fun w' hw => by rw [hw, Nat.mul_one, ← getD_of hx9]; exact ((hre.sat hS).at_ ((List.getElem?_eq_some_iff.1 hx9).1)).2)) fun a ha => ?_
  refine jV (qH 14 (vs := [iv x9, iv (-32767), iv 32767]) ha (q_in hS _ _ _) fun v2 w a hp3 ha => ?_)
  obtain ⟨rfl, hS⟩ := hp3
  refine jX [(5, 15, .bool (!((inB x9 (-32767) 32767))))] ha fun a ha => ?_
  refine jK (jQ ?_)
  rcases Bool.eq_false_or_eq_true (inB x9 (-32767) 32767) with c4 | c4
  ·
   refine jG ha rfl (yH c4) ?_
   refine wp_skip (in_n (jQ (jY [0, 1, 2] (jX [(0, 8, iv (i : Int))] ha fun a ha => ?_))))
   refine zK 9 ((i : Int) + 1) ha fun a ha => ?_
   refine jX [(2, 3, iv ((i : Int) + 1))] ha fun a ha => ?_
   refine jK (jQ ?_)
   exact ⟨_, by omega, i + 1, rfl, by omega, allE hx9 hall (show entryB x9 = true from c4), ha.keeps [0, 3] _ rfl, hS⟩
  refine qX ha rfl (kY c4) ?_
  refine wp_seq (jY [0] (jX [(0, 2, .bool false)] ha fun a ha => ?_))
  refine jK (jQ (wp_ret (in_r (xJ (xJ (in_r (xJ (qU ha (by kernel_rfl) (xK (t := 2) ha rfl) ?_))))))))
  have hB : badE es = true := badE_yes hx9 (show entryB x9 = false from c4)
  have hE : entriesB es = false := by unfold entriesB; rw [hB]; simp; try omega
  rw [hE]
  exact ⟨rfl, hS⟩
 refine jG ha rfl (decide_eq_false c1) ?_
 refine wp_exit (yQ (yQ (in_x (jQ (wp_seq (jY [0, 1, 2, 3] (jX [(0, 16, .slice se.A se.n se.c), (1, 17, iv (se.n : Int)), (2, 18, .bool (decide ((se.n : Int) ≤ 60))), (3, 2, .bool (decide ((se.n : Int) ≤ 60)))] ha fun a ha => ?_)))))))
 refine jK (jQ (wp_ret (qU ha (by kernel_rfl) (xK (t := 2) ha rfl) ?_)))
 have hB : badE es = false := badE_no hall (by omega)
 have hE : entriesB es = decide ((se.n : Int) ≤ 60) := by unfold entriesB; rw [hB]; simp; try omega
 rw [hE]
 exact ⟨rfl, hS⟩
theorem good_sat {w0 w : World} {Rs : List Asn} {se : Sl} {es : List Int} (hS : Sat w0 w Rs) (hre : RdI w se es) :
  Calls Try.prog 116 #[.slice se.A se.n se.c] w (Ret fun r w' => r = .bool (entriesB es) ∧ Sat w0 w' Rs) := lift0 hS (good_sat0 hre)
theorem code140 : Try.f140.body = some (Code.seq (cr Try.f140 0 false) (Code.seq (cr Try.f140 1 false) Code.ret)) := by kernel_rfl
set_option maxRecDepth 20000 in
set_option maxHeartbeats 1000000 in
theorem ec_sat {w0 w : World} {Rs : List Asn} {x : Int} (hS : Sat w0 w Rs) :
  Calls Try.prog 140 #[.int .i64 x] w (Ret fun r w' => r = .bool (!(entryB x)) ∧ Sat w0 w' Rs) := by
 refine enter (n := 6) Try.func140 code140 (by kernel_rfl) (Nat.le_of_ble_eq_true rfl) (fun a ha => ?_)
 replace ha : Has 6 [(0, iv x)] a := ha
 refine wp_seq (jY [0] (jX [(0, 2, .bool false)] ha fun a ha => ?_))
 refine jK (jQ (wp_seq (jY [0, 1, 2, 3] (jX [(0, 3, iv x)] ha fun a ha => ?_))))
 refine jV (qH 4 (vs := [iv x, iv (-32767), iv 32767]) ha (in_sat hS _ _ _) fun v1 w a hp2 ha => ?_)
 obtain ⟨rfl, hS⟩ := hp2
 refine jX [(2, 5, .bool (!((inB x (-32767) 32767)))), (3, 2, .bool (!((inB x (-32767) 32767))))] ha fun a ha => ?_
 refine jK (jQ (wp_ret (qU ha (by kernel_rfl) (xK (t := 2) ha rfl) ?_)))
 exact ⟨rfl, hS⟩
theorem code130 : Try.f130.body = some (Code.seq (cr Try.f130 0 false) (Code.seq (Code.seq (cr Try.f130 1 false) (Code.block 0 (Code.loop (Code.seq (cr Try.f130 2 false) (Code.seq (Code.cond (Operand.tmp 9) Code.skip (Code.exit 0)) (Code.seq (Code.block 1 (Code.seq (cr Try.f130 3 false) (Code.seq (cr Try.f130 4 false) (Code.cond (Operand.tmp 16) (Code.seq (cr Try.f130 5 false) Code.ret) Code.skip)))) (cr Try.f130 6 false))))))) (Code.seq (cr Try.f130 7 false) Code.ret))) := by kernel_rfl
set_option maxRecDepth 20000 in
set_option maxHeartbeats 1000000 in
theorem eidx_sat0 {w0 : World} {se : Sl} {es : List Int} (hre : RdI w0 se es) :
  Calls Try.prog 130 #[.slice se.A se.n se.c, (.func (.func 140) #[] #[])] w0 (Ret fun r w' => ∃ kx : Int, r = .int .i64 kx ∧ decide (kx ≥ 0) = badE es ∧ Sat w0 w' []) := by
 have hS : Sat w0 w0 [] := Sat.start w0
 have hel := hre.len
 have hbig := hre.big
 refine enter (n := 19) Try.func130 code130 (by kernel_rfl) (Nat.le_of_ble_eq_true rfl) (fun a ha => ?_)
 replace ha : Has 19 [(0, .slice se.A se.n se.c), (1, (.func (.func 140) #[] #[]))] a := ha
 refine wp_seq (jY [0] (jX [(0, 4, iv 0)] ha fun a ha => ?_))
 refine jK (jQ (wp_seq (wp_seq (jY [0, 1, 2] (jX [(0, 6, .slice se.A se.n se.c), (1, 7, iv (se.n : Int)), (2, 8, iv 0)] ha fun a ha => ?_)))))
 refine jK (jQ (wp_block ?_))
 refine wp_loop_ghost (fun n_ a_ w_ => ∃ (i : Nat), n_ = es.length - i ∧ (i ≤ es.length) ∧ (∀ (j : Nat) (x : Int), j < i → es[j]? = some x → entryB x = true) ∧ Has 19 [(0, .slice se.A se.n se.c), (1, (.func (.func 140) #[] #[])), (7, iv (se.n : Int)), (8, iv (i : Int))] a_ ∧ Sat w0 w_ ([])) _ ⟨0, rfl, Nat.zero_le _, (fun j x hj => by omega), ha.keeps [0, 1, 7, 8] _ rfl, hS⟩ ?_
 rintro n_ a w ⟨i, rfl, hi, hall, ha, hS⟩
 refine wp_seq (jY [0] (jX [(0, 9, .bool (decide ((i : Int) < (se.n : Int))))] ha fun a ha => ?_))
 refine jK (jQ (wp_seq ?_))
 by_cases c1 : (i : Int) < (se.n : Int)
 ·
  have hlt : i < es.length := by omega
  obtain ⟨x9, hx9⟩ : ∃ x, es[i]? = some x := ⟨_, List.getElem?_eq_getElem hlt⟩
  refine qX ha rfl (decide_eq_true c1) ?_
  refine wp_skip (jQ (wp_seq (wp_block (wp_seq (jY [0, 1] (jX [(0, 10, iv (i : Int)), (1, 5, iv (i : Int))] ha fun a ha => ?_))))))
  refine jK (jQ (wp_seq (jY [0, 1, 2, 3, 4, 5] (jX [(0, 11, (.func (.func 140) #[] #[])), (1, 12, .slice se.A se.n se.c), (2, 13, iv (i : Int))] ha fun a ha => ?_))))
  refine yZ (.pointer (some ⟨bk se, of_ se + i * 1, none⟩)) ha (zU (el := 3) (sz := 1) (j := i) ha (yG (t := 36) (x := 12) (y := 13) (d := 14)) rfl rfl (by kernel_rfl) (by kernel_rfl) ((hre.sat hS).at_ ((List.getElem?_eq_some_iff.1 hx9).1)).1 (by rw [((hre.sat hS)).len]; exact (List.getElem?_eq_some_iff.1 hx9).1)) fun a ha => ?_
  refine yZ (iv x9) ha (zZ (p := ⟨bk se, of_ se + i * 1, none⟩) ha (kJ (t := 3) (x := 14) (d := 15) (ty := 3)) rfl (by kernel_rfl) (fun w' hw => by rw [hw, Nat.mul_one, ← getD_of hx9]; exact ((hre.sat hS).at_ ((List.getElem?_eq_some_iff.1 hx9).1)).2)) fun a ha => ?_
  refine jV (o_retF (t := 11) (f := 140) (cap := []) ha (by decide) (yU (op := (Op.call { callee := (Callee.value (Operand.tmp 11)), args := #[(Operand.tmp 15)], argTypes := #[3] })) (d := some 16) (ty := 4)) rfl rfl Try.func140 (by kernel_rfl) (ec_sat (x := x9) hS) fun v2 w a hp3 ha => ?_)
  obtain ⟨rfl, hS⟩ := hp3
  refine jK (jQ ?_)
  rcases Bool.eq_false_or_eq_true (entryB x9) with c4 | c4
  ·
   refine jG ha rfl (yH c4) ?_
   refine wp_skip (in_n (jQ (jY [0, 1] (zK 18 ((i : Int) + 1) ha fun a ha => ?_))))
   refine jX [(1, 8, iv ((i : Int) + 1))] ha fun a ha => ?_
   refine jK (jQ ?_)
   exact ⟨_, by omega, i + 1, rfl, by omega, allE hx9 hall c4, ha.keeps [0, 1, 7, 8] _ rfl, hS⟩
  refine qX ha rfl (kY c4) ?_
  refine wp_seq (jY [0, 1] (jX [(0, 17, iv (i : Int)), (1, 4, iv (i : Int))] ha fun a ha => ?_))
  refine jK (jQ (wp_ret (in_r (xJ (xJ (in_r (xJ (qU ha (by kernel_rfl) (xK (t := 4) ha rfl) ?_))))))))
  exact ⟨_, rfl, by rw [badE_yes hx9 c4]; exact decide_eq_true (by omega), hS⟩
 refine jG ha rfl (decide_eq_false c1) ?_
 refine wp_exit (yQ (yQ (in_x (jQ (wp_seq (jY [0] (jX [(0, 4, iv (-1))] ha fun a ha => ?_)))))))
 refine jK (jQ (wp_ret (qU ha (by kernel_rfl) (xK (t := 4) ha rfl) ?_)))
 exact ⟨_, rfl, by rw [badE_no hall (by omega)]; decide, hS⟩
theorem eidx_sat {w0 w : World} {Rs : List Asn} {se : Sl} {es : List Int} (hS : Sat w0 w Rs) (hre : RdI w se es) :
  Calls Try.prog 130 #[.slice se.A se.n se.c, (.func (.func 140) #[] #[])] w (Ret fun r w' => ∃ kx : Int, r = .int .i64 kx ∧ decide (kx ≥ 0) = badE es ∧ Sat w0 w' Rs) :=
 (eidx_sat0 hre).mono fun e w' h => by
  cases e with
  | returned r => obtain ⟨kx, h1, h2, h3⟩ := h; exact ⟨kx, h1, h2, hS.comp (Ps := []) h3⟩
  | _ => exact h.elim
theorem code99 : Try.f99.body = some (Code.seq (cr Try.f99 0 false) (Code.seq (cr Try.f99 1 false) Code.ret)) := by kernel_rfl
set_option maxRecDepth 20000 in
set_option maxHeartbeats 1000000 in
theorem econ_sat0 {w0 : World} {se : Sl} {es : List Int} (hre : RdI w0 se es) :
  Calls Try.prog 99 #[.slice se.A se.n se.c, (.func (.func 140) #[] #[])] w0 (Ret fun r w' => r = .bool (badE es) ∧ Sat w0 w' []) := by
 have hS : Sat w0 w0 [] := Sat.start w0
 have hel := hre.len
 have hbig := hre.big
 refine enter (n := 9) Try.func99 code99 (by kernel_rfl) (Nat.le_of_ble_eq_true rfl) (fun a ha => ?_)
 replace ha : Has 9 [(0, .slice se.A se.n se.c), (1, (.func (.func 140) #[] #[]))] a := ha
 refine wp_seq (jY [0] (jX [(0, 4, .bool false)] ha fun a ha => ?_))
 refine jK (jQ (wp_seq (jY [0, 1, 2, 3, 4] (jX [(0, 5, .slice se.A se.n se.c), (1, 6, (.func (.func 140) #[] #[]))] ha fun a ha => ?_))))
 refine jV (qH 7 (vs := [.slice se.A se.n se.c, (.func (.func 140) #[] #[])]) ha (eidx_sat hS (hre.sat hS)) fun v1 w a hp2 ha => ?_)
 obtain ⟨kx, rfl, hkx, hS⟩ := hp2
 refine jX [(3, 8, .bool (decide (kx ≥ 0))), (4, 4, .bool (decide (kx ≥ 0)))] ha fun a ha => ?_
 refine jK (jQ (wp_ret (qU ha (by kernel_rfl) (xK (t := 4) ha rfl) ?_)))
 exact ⟨congrArg Value.bool (show (decide (kx ≥ 0)) = badE es from hkx), hS⟩
theorem econ_sat {w0 w : World} {Rs : List Asn} {se : Sl} {es : List Int} (hS : Sat w0 w Rs) (hre : RdI w se es) :
  Calls Try.prog 99 #[.slice se.A se.n se.c, (.func (.func 140) #[] #[])] w (Ret fun r w' => r = .bool (badE es) ∧ Sat w0 w' Rs) := lift0 hS (econ_sat0 hre)
theorem code121 : Try.f121.body = some (Code.seq (cr Try.f121 0 false) (Code.seq (cr Try.f121 1 false) Code.ret)) := by kernel_rfl
set_option maxRecDepth 20000 in
set_option maxHeartbeats 1000000 in
theorem arE_sat0 {w0 : World} {se : Sl} {es : List Int} (hre : RdI w0 se es) :
  Calls Try.prog 121 #[.slice se.A se.n se.c] w0 (Ret fun r w' => r = .bool (entriesB es) ∧ Sat w0 w' []) := by
 have hS : Sat w0 w0 [] := Sat.start w0
 have hel := hre.len
 have hbig := hre.big
 refine enter (n := 11) Try.func121 code121 (by kernel_rfl) (Nat.le_of_ble_eq_true rfl) (fun a ha => ?_)
 replace ha : Has 11 [(0, .slice se.A se.n se.c)] a := ha
 refine wp_seq (jY [0] (jX [(0, 2, .bool false)] ha fun a ha => ?_))
 refine jK (jQ (wp_seq (jY [0, 1, 2, 3, 4, 5, 6, 7, 8] (jX [(0, 3, .slice se.A se.n se.c), (1, 4, iv (se.n : Int)), (2, 5, .bool (decide ((se.n : Int) ≤ 60))), (3, 6, .bool (decide ((se.n : Int) ≤ 60)))] ha fun a ha => ?_))))
 by_cases c1 : (se.n : Int) ≤ 60
 ·
  replace ha := ha.turn 5 (.bool true) rfl (congrArg Value.bool (decide_eq_true c1))
  replace ha := ha.turn 6 (.bool true) rfl (congrArg Value.bool (decide_eq_true c1))
  refine jX [(4, 7, .slice se.A se.n se.c)] ha fun a ha => ?_
  refine jV (qH 8 (vs := [.slice se.A se.n se.c, (.func (.func 140) #[] #[])]) ha (econ_sat hS (hre.sat hS)) fun v2 w a hp3 ha => ?_)
  obtain ⟨rfl, hS⟩ := hp3
  refine jX [(6, 9, .bool (!((badE es)))), (7, 10, .bool (!((badE es)))), (8, 2, .bool (!((badE es))))] ha fun a ha => ?_
  refine jK (jQ (wp_ret (qU ha (by kernel_rfl) (xK (t := 2) ha rfl) ?_)))
  have hE : entriesB es = !((badE es)) := by unfold entriesB; rw [decide_eq_true (show es.length ≤ 60 by omega), Bool.true_and]
  rw [hE]
  exact ⟨rfl, hS⟩
 replace ha := ha.turn 5 (.bool false) rfl (congrArg Value.bool (decide_eq_false c1))
 replace ha := ha.turn 6 (.bool false) rfl (congrArg Value.bool (decide_eq_false c1))
 refine jX [(4, 7, undef), (5, 8, undef), (6, 9, undef), (7, 10, .bool false), (8, 2, .bool false)] ha fun a ha => ?_
 refine jK (jQ (wp_ret (qU ha (by kernel_rfl) (xK (t := 2) ha rfl) ?_)))
 have hE : entriesB es = false := by unfold entriesB; rw [decide_eq_false (show ¬ es.length ≤ 60 by omega)]; rfl
 rw [hE]
 exact ⟨rfl, hS⟩
theorem arE_sat {w0 w : World} {Rs : List Asn} {se : Sl} {es : List Int} (hS : Sat w0 w Rs) (hre : RdI w se es) :
  Calls Try.prog 121 #[.slice se.A se.n se.c] w (Ret fun r w' => r = .bool (entriesB es) ∧ Sat w0 w' Rs) := lift0 hS (arE_sat0 hre)
end Go.Proofs.Ytggahaddkoifkaa.G
end
section
namespace Go.Proofs.Ytggahaddkoifkaa.G
open Go.RowKit Go.Proofs.Ytggahaddkoifkaa.SX Go.Proofs.YtggahaddkoifkaaW.PrintWords Go.Proofs.YtggahaddkoifkaaW.PrintLast Go.Proofs.YtggahaddkoifkaaW.PrintMore
set_option linter.unusedVariables false
set_option linter.unusedSimpArgs false
theorem code122 : Try.f122.body = some (Code.seq (cr Try.f122 0 false) (Code.seq (cr Try.f122 1 false) (Code.seq (Code.seq (cr Try.f122 2 false) (Code.block 0 (Code.loop (Code.seq (cr Try.f122 3 false) (Code.seq (Code.cond (Operand.tmp 16) Code.skip (Code.exit 0)) (Code.seq (Code.block 1 (Code.seq (cr Try.f122 4 false) (Code.seq (cr Try.f122 5 false) (Code.seq (Code.seq (cr Try.f122 6 false) (Code.cond (Operand.tmp 34) (cr Try.f122 7 false) Code.skip)) (Code.seq (Code.seq (cr Try.f122 8 false) (Code.cond (Operand.tmp 40) (cr Try.f122 9 false) Code.skip)) (Code.seq (Code.seq (cr Try.f122 10 false) (Code.cond (Operand.tmp 48) (cr Try.f122 11 false) Code.skip)) (cr Try.f122 12 false))))))) (cr Try.f122 13 false))))))) (Code.seq (cr Try.f122 14 false) Code.ret)))) := by kernel_rfl
set_option maxRecDepth 20000 in
set_option maxHeartbeats 1000000 in
theorem books_sat (w0 : World) (s0 : Sl) (l0 : List Int) (hr0 : RdI w0 s0 l0) (he : l0.length ≤ 60) (hb : ∀ x ∈ l0, -32767 ≤ x ∧ x ≤ 32767) :
  Calls Try.prog 122 #[.slice s0.A s0.n s0.c] w0 (Ret fun r w' => ∃ (v5 v6 : Sl) (outs : List Sl) (outl : List (List Int)) (us : List (Sl × List Int)), r = .tuple #[v5.v, v6.v] ∧ (outs.length = outl.length ∧ ∀ x ∈ outs.zip outl, x ∈ us) ∧ outl = bkOpens [] l0 ∧ Sat w0 w' [SX.row v5.v 36 1 (SX.encS outs), SX.row v6.v 3 1 (SX.encI (bkFaults 0 [] l0)), rowsI 3 us]) := by
 have hS : Sat w0 w0 [] := Sat.start w0
 have hlen0 := hr0.len
 refine enter (n := 61) Try.func122 code122 (by kernel_rfl) (Nat.le_of_ble_eq_true rfl) (fun a ha => ?_)
 replace ha : Has 61 [(0, .slice s0.A s0.n s0.c)] a := ha
 refine wp_seq (jY [0, 1] (jX [(0, 2, .slice none 0 0), (1, 3, .slice none 0 0)] ha fun a ha => ?_))
 refine jK (jQ (wp_seq (jY [0, 1, 2, 3, 4, 5] (jV (xQ 10 [] 3 (fun b => .slice (some ⟨b, 0, none⟩) 0 0) ha hS fun b1 w a hb2 hS ha => ?_)))))
 refine jV (xQ 11 [] 36 (fun b => .slice (some ⟨b, 0, none⟩) 0 0) ha hS fun b3 w a hb4 hS ha => ?_)
 refine jV (xQ 12 [] 3 (fun b => .slice (some ⟨b, 0, none⟩) 0 0) ha hS fun b5 w a hb6 hS ha => ?_)
 refine jX [(3, 4, .slice (some ⟨b1, 0, none⟩) 0 0), (4, 5, .slice (some ⟨b3, 0, none⟩) 0 0), (5, 6, .slice (some ⟨b5, 0, none⟩) 0 0)] ha fun a ha => ?_
 refine jK (jQ (wp_seq (wp_seq (jY [0, 1, 2] (jX [(0, 13, .slice s0.A s0.n s0.c), (1, 14, iv (s0.n : Int)), (2, 15, iv 0)] ha fun a ha => ?_)))))
 refine jK (jQ (wp_block ?_))
 replace hS : Sat w0 w ((SX.blk b1 [] 3) :: (SX.blk b3 [] 36) :: (SX.blk b5 [] 3) :: []) := hS.pickN 3 [2, 1, 0] (by decide) rfl
 replace hS : Sat w0 w ((SX.row (.slice (some ⟨b1, 0, none⟩) 0 0) 3 1 (SX.encI [])) :: (SX.blk b3 [] 36) :: (SX.blk b5 [] 3) :: []) := hS.shutRow (g := b1) (n := 0) (cap := 0) (T := 3) (sz := 1) (xs := []) (cur := []) 0 rfl rfl (Nat.le_refl _) (by decide) rfl
 replace hS : Sat w0 w ((SX.row (.slice (some ⟨b1, 0, none⟩) 0 0) 3 1 (SX.encI [])) :: (SX.row (.slice (some ⟨b3, 0, none⟩) 0 0) 36 1 (SX.encS [])) :: (SX.blk b5 [] 3) :: []) := hS.shutRow (g := b3) (n := 0) (cap := 0) (T := 36) (sz := 1) (xs := []) (cur := []) 1 rfl rfl (Nat.le_refl _) (by decide) rfl
 replace hS : Sat w0 w ((SX.row (.slice (some ⟨b1, 0, none⟩) 0 0) 3 1 (SX.encI [])) :: (SX.row (.slice (some ⟨b3, 0, none⟩) 0 0) 36 1 (SX.encS [])) :: (SX.row (.slice (some ⟨b5, 0, none⟩) 0 0) 3 1 (SX.encI [])) :: []) := hS.shutRow (g := b5) (n := 0) (cap := 0) (T := 3) (sz := 1) (xs := []) (cur := []) 2 rfl rfl (Nat.le_refl _) (by decide) rfl
 replace hS : Sat w0 w ((rowsI 3 []) :: (SX.row (.slice (some ⟨b1, 0, none⟩) 0 0) 3 1 (SX.encI [])) :: (SX.row (.slice (some ⟨b3, 0, none⟩) 0 0) 36 1 (SX.encS [])) :: (SX.row (.slice (some ⟨b5, 0, none⟩) 0 0) 3 1 (SX.encI [])) :: []) := Sat.merge (l := []) hS
 replace hS : Sat w0 w ((SX.row (.slice (some ⟨b1, 0, none⟩) 0 0) 3 1 (SX.encI [])) :: (rowsI 3 []) :: (SX.row (.slice (some ⟨b3, 0, none⟩) 0 0) 36 1 (SX.encS [])) :: (SX.row (.slice (some ⟨b5, 0, none⟩) 0 0) 3 1 (SX.encI [])) :: []) := hS.pickN 4 [1, 0, 2, 3] (by decide) rfl
 replace hS : Sat w0 w ((rowsI 3 [(⟨some ⟨b1, 0, none⟩, 0, 0⟩, [])]) :: (SX.row (.slice (some ⟨b3, 0, none⟩) 0 0) 36 1 (SX.encS [])) :: (SX.row (.slice (some ⟨b5, 0, none⟩) 0 0) 3 1 (SX.encI [])) :: []) := Sat.gainRow (s := ⟨some ⟨b1, 0, none⟩, 0, 0⟩) (l := []) hS
 replace hS : Sat w0 w ((SX.row (.slice (some ⟨b3, 0, none⟩) 0 0) 36 1 (SX.encS [])) :: (SX.row (.slice (some ⟨b5, 0, none⟩) 0 0) 3 1 (SX.encI [])) :: (rowsI 3 [(⟨some ⟨b1, 0, none⟩, 0, 0⟩, [])]) :: []) := hS.pickN 3 [1, 2, 0] (by decide) rfl
 refine wp_loop_ghost (fun n_ a_ w_ => ∃ (i : Nat) (o : List Int) (so : Sl) (us : List (Sl × List Int)) (outs : List Sl) (outl : List (List Int)) (fs : List Int) (v5 : Sl) (v6 : Sl), n_ = l0.length - i ∧ (i ≤ l0.length) ∧ ((so, o) ∈ us) ∧ (o.length ≤ i) ∧ (fs.length ≤ i) ∧ (outs.length = outl.length ∧ ∀ x ∈ outs.zip outl, x ∈ us) ∧ (outs.length = i) ∧ (outl ++ bkOpens o (l0.drop i) = bkOpens [] l0) ∧ (fs ++ bkFaults (i : Int) o (l0.drop i) = bkFaults 0 [] l0) ∧ Has 61 [(13, .slice s0.A s0.n s0.c), (14, iv (s0.n : Int)), (15, iv (i : Int)), (4, .slice so.A so.n so.c), (5, .slice v5.A v5.n v5.c), (6, .slice v6.A v6.n v6.c)] a_ ∧ Sat w0 w_ ((SX.row (.slice v5.A v5.n v5.c) 36 1 (SX.encS outs)) :: (rI v6 fs) :: (rowsI 3 us) :: [])) _ ⟨0, [], ⟨some ⟨b1, 0, none⟩, 0, 0⟩, [(⟨some ⟨b1, 0, none⟩, 0, 0⟩, [])], [], [], [], ⟨some ⟨b3, 0, none⟩, 0, 0⟩, ⟨some ⟨b5, 0, none⟩, 0, 0⟩, rfl, Nat.zero_le _, List.mem_singleton.2 rfl, Nat.le_refl _, Nat.le_refl _, ⟨rfl, fun x hx => by cases hx⟩, rfl, rfl, rfl, ha.keeps [13, 14, 15, 4, 5, 6] _ rfl, hS⟩ ?_
 rintro n_ a w ⟨i, o, so, us, outs, outl, fs, v5, v6, rfl, hi, hso, hol, hfl, hou, hon, hop, hfp, ha, hS⟩
 refine wp_seq (jY [0] (jX [(0, 16, .bool (decide ((i : Int) < (s0.n : Int))))] ha fun a ha => ?_))
 refine jK (jQ (wp_seq ?_))
 by_cases c7 : (i : Int) < (s0.n : Int)
 ·
  have hlt : i < l0.length := by have := c7; omega
  obtain ⟨n, hn0⟩ : ∃ n, n = l0.getD i 0 := ⟨_, rfl⟩
  have hn := hb n (by rw [hn0, List.getD_eq_getElem?_getD, List.getElem?_eq_getElem hlt]; exact List.getElem_mem hlt)
  refine qX ha rfl (decide_eq_true c7) ?_
  refine wp_skip (jQ (wp_seq (wp_block (wp_seq (jY [0, 1, 2, 3, 4] (jX [(0, 17, iv (i : Int))] ha fun a ha => ?_))))))
  refine yZ (.pointer (some ⟨bk s0, of_ s0 + i * 1, none⟩)) ha (zU (el := 3) (sz := 1) (j := i) ha (yG (t := 36) (x := 13) (y := 15) (d := 18)) rfl rfl (by kernel_rfl) (by kernel_rfl) ((hr0.sat hS).at_ hlt).1 (by rw [((hr0.sat hS)).len]; exact hlt)) fun a ha => ?_
  refine yZ (iv n) ha (zZ (p := ⟨bk s0, of_ s0 + i * 1, none⟩) ha (kJ (t := 3) (x := 18) (d := 19) (ty := 3)) rfl (by kernel_rfl) (fun w' hw => by rw [hw, Nat.mul_one, hn0]; exact ((hr0.sat hS).at_ hlt).2)) fun a ha => ?_
  refine jX [(3, 7, iv (i : Int)), (4, 8, iv n)] ha fun a ha => ?_
  refine jK (jQ (wp_seq (jY [0, 1, 2, 3, 4, 5, 6] (jX [(0, 20, .slice so.A so.n so.c), (1, 21, iv n), (2, 22, iv n)] ha fun a ha => ?_))))
  refine yZ (iv (-n)) ha ((qG (v := .int .i64 (IntKind.i64.wrap (0 - n))) ha (yU (op := (Op.unOp UnOp.neg 3 (Operand.tmp 22))) (d := some 23) (ty := 3)) (by kernel_rfl) (fun _ => by kernel_rfl)).as (by rw [wrap_i64 (by omega) (by omega)]; exact congrArg _ (by omega))) fun a ha => ?_
  refine yZ (iv (max n (-n))) ha ((qG (v := .int .i64 (if n < (-n) then (-n) else n)) ha (yU (op := (Op.call { callee := (Callee.builtin Builtin.max), args := #[(Operand.tmp 21), (Operand.tmp 23)], argTypes := #[3, 3] })) (d := some 24) (ty := 3)) (by kernel_rfl) (fun _ => by kernel_rfl)).as (by congr 1; omega)) fun a ha => ?_
  refine jV (qH 25 (vs := [.slice so.A so.n so.c, iv (max n (-n))]) ha (index_sat hS (hS.rdRows (s := so) (l := o) 2 rfl hso) (by omega) _) fun v8 w a hp9 ha => ?_)
  obtain ⟨rfl, hS⟩ := hp9
  have hix := idxI_le o (max n (-n))
  refine jX [(6, 9, iv (idxI o (max n (-n))))] ha fun a ha => ?_
  refine jK (jQ (wp_seq (wp_seq (jY [0, 1, 2, 3, 4, 5, 6, 7, 8] (jX [(0, 26, iv n), (1, 27, .bool (!(decide (n = 0)))), (2, 28, .bool (!(decide (n = 0))))] ha fun a ha => ?_)))))
  by_cases c10 : n = 0
  ·
   replace ha := ha.turn 27 (.bool false) rfl (congrArg Value.bool (yH (decide_eq_true c10)))
   replace ha := ha.turn 28 (.bool false) rfl (congrArg Value.bool (yH (decide_eq_true c10)))
   refine jX [(3, 29, undef), (4, 30, undef), (5, 31, undef), (6, 32, undef), (7, 33, undef), (8, 34, .bool false)] ha fun a ha => ?_
   refine jK (jQ ?_)
   refine jG ha rfl rfl ?_
   refine wp_skip (jQ (wp_seq (wp_seq (jY [0, 1] (jX [(0, 39, iv (idxI o (max n (-n)))), (1, 40, .bool (decide ((idxI o (max n (-n))) ≥ 0)))] ha fun a ha => ?_)))))
   refine jK (jQ ?_)
   by_cases c11 : (idxI o (max n (-n))) ≥ 0
   ·
    refine qX ha rfl (decide_eq_true c11) ?_
    refine jY [0, 1, 2, 3, 4, 5, 6] (jX [(0, 41, .slice so.A so.n so.c)] ha fun a ha => ?_)
    have hlen_ : (o).length ≤ 1000000 := by omega
    refine jV (qH 42 (vs := [.slice so.A so.n so.c]) ha (clone_sat hS (hS.rdRows (s := so) (l := o) 2 rfl hso) hlen_) fun v13 w a hp14 ha => ?_)
    obtain ⟨s12, rfl, hS⟩ := hp14
    refine jX [(2, 43, iv (idxI o (max n (-n)))), (3, 44, iv (idxI o (max n (-n))))] ha fun a ha => ?_
    refine zK 45 ((idxI o (max n (-n))) + 1) ha fun a ha => ?_
    replace hS : Sat w0 w ((rI s12 o) :: (SX.row (.slice v5.A v5.n v5.c) 36 1 (SX.encS outs)) :: (rI v6 fs) :: (rowsI 3 us) :: []) := hS
    have hin : (max n (-n)) ∈ o := idxI_mem.1 c11
    have hidx : idxI o (max n (-n)) = (o.idxOf (max n (-n)) : Int) := if_pos hin
    refine jV (o_ret (Post := fun r w' => ∃ s' : Sl, r = s'.v ∧ Sat w0 w' ((rI s' (o.eraseIdx (o.idxOf (max n (-n))))) :: (SX.row (.slice v5.A v5.n v5.c) 36 1 (SX.encS outs)) :: (rI v6 fs) :: (rowsI 3 us) :: [])) ha (by decide) (yU (op := (Op.call { callee := (Callee.value (Operand.func 142)), args := #[(Operand.tmp 42), (Operand.tmp 43), (Operand.tmp 45)], argTypes := #[36, 3, 3] })) (d := some 46) (ty := 36)) rfl Try.func142 (by kernel_rfl) (by rw [hidx]; exact delete_sat hS _ (List.idxOf_lt_length_of_mem hin) (by omega)) (fun v16 w a hp17 ha => ?_))
    obtain ⟨s15, rfl, hS⟩ := hp17
    have ha : Has 61 [(13, .slice s0.A s0.n s0.c), (14, iv (s0.n : Int)), (15, iv (i : Int)), (4, .slice so.A so.n so.c), (5, .slice v5.A v5.n v5.c), (6, .slice v6.A v6.n v6.c), (16, .bool (decide ((i : Int) < (s0.n : Int)))), (17, iv (i : Int)), (18, .pointer (some ⟨bk s0, of_ s0 + i * 1, none⟩)), (19, iv n), (7, iv (i : Int)), (8, iv n), (20, .slice so.A so.n so.c), (21, iv n), (22, iv n), (23, iv (-n)), (24, iv (max n (-n))), (25, iv (idxI o (max n (-n)))), (9, iv (idxI o (max n (-n)))), (26, iv n), (27, .bool false), (28, .bool false), (29, undef), (30, undef), (31, undef), (32, undef), (33, undef), (34, .bool false), (39, iv (idxI o (max n (-n)))), (40, .bool (decide ((idxI o (max n (-n))) ≥ 0))), (41, .slice so.A so.n so.c), (42, .slice s12.A s12.n s12.c), (43, iv (idxI o (max n (-n)))), (44, iv (idxI o (max n (-n)))), (45, iv ((idxI o (max n (-n))) + 1)), (46, .slice s15.A s15.n s15.c)] a := ha.keeps [13, 14, 15, 4, 5, 6, 16, 17, 18, 19, 7, 8, 20, 21, 22, 23, 24, 25, 9, 26, 27, 28, 29, 30, 31, 32, 33, 34, 39, 40, 41, 42, 43, 44, 45, 46] _ rfl
    refine jX [(6, 4, .slice s15.A s15.n s15.c)] ha fun a ha => ?_
    refine jK (jQ (wp_seq (wp_seq (jY [0, 1] (jX [(0, 47, iv n), (1, 48, .bool (decide (n > 0)))] ha fun a ha => ?_)))))
    refine jK (jQ ?_)
    by_cases c18 : n > 0
    ·
     refine qX ha rfl (decide_eq_true c18) ?_
     refine jY [0, 1, 2, 3, 4, 5] (jX [(0, 49, .slice s15.A s15.n s15.c)] ha fun a ha => ?_)
     have hlen_ : ((o.eraseIdx (o.idxOf (max n (-n))))).length ≤ 1000000 := by rw [List.length_eraseIdx]; split <;> omega
     refine jV (qH 50 (vs := [.slice s15.A s15.n s15.c]) ha (clone_sat hS (hS.rdRow (s := s15) (l := (o.eraseIdx (o.idxOf (max n (-n))))) 0 rfl) hlen_) fun v20 w a hp21 ha => ?_)
     obtain ⟨s19, rfl, hS⟩ := hp21
     refine jX [(2, 51, iv n)] ha fun a ha => ?_
     refine jV (xQ 52 [iv n] 3 (fun b => .slice (some ⟨b, 0, none⟩) 1 1) ha hS fun b22 w a hb23 hS ha => ?_)
     refine jV (zW (news := [iv n]) (z := iv 0) (sz := 1) (bytes := 8) (T2 := 3) (xs' := SX.encI ((o.eraseIdx (o.idxOf (max n (-n)))) ++ [n])) 1 0 ha (by decide) (yU (op := (Op.call { callee := (Callee.builtin Builtin.append), args := #[(Operand.tmp 50), (Operand.tmp 52)], argTypes := #[36, 36] })) (d := some 53) (ty := 36)) rfl rfl (by kernel_rfl) (by kernel_rfl) rfl (by decide) hS rfl rfl (by simp) rfl (by rw [SX.encI_length]; simp; first | omega | (have hle_ := List.length_eraseIdx_le o (o.idxOf (max n (-n))); omega)) (by decide) (encI_snoc _ _) fun s27 w a hS hn28 ha => ?_)
     refine jX [(5, 4, .slice s27.A s27.n s27.c)] ha fun a ha => ?_
     refine jK (jQ (jY [0, 1, 2, 3, 4] (jX [(0, 54, .slice v5.A v5.n v5.c), (1, 55, .slice s27.A s27.n s27.c)] ha fun a ha => ?_)))
     refine jV (xQ 56 [.slice s27.A s27.n s27.c] 36 (fun b => .slice (some ⟨b, 0, none⟩) 1 1) ha hS fun b29 w a hb30 hS ha => ?_)
     refine jV (zW (news := [.slice s27.A s27.n s27.c]) (z := .slice none 0 0) (sz := 1) (bytes := 24) (T2 := 36) (xs' := SX.encS (outs ++ [s27])) 4 0 ha (by decide) (yU (op := (Op.call { callee := (Callee.builtin Builtin.append), args := #[(Operand.tmp 54), (Operand.tmp 56)], argTypes := #[160, 160] })) (d := some 57) (ty := 160)) rfl rfl (by kernel_rfl) (by kernel_rfl) rfl (by decide) hS rfl rfl (by simp) rfl (by rw [encS_length]; simp; omega) (by decide) (encS_snoc _ _) fun s34 w a hS hn35 ha => ?_)
     refine jX [(4, 5, .slice s34.A s34.n s34.c)] ha fun a ha => ?_
     refine jK (in_n (jQ (jY [0, 1] (zK 58 ((i : Int) + 1) ha fun a ha => ?_))))
     refine jX [(1, 15, iv ((i : Int) + 1))] ha fun a ha => ?_
     refine jK (jQ ?_)
     replace hS : Sat w0 w ((rI s15 (o.eraseIdx (o.idxOf (max n (-n))))) :: (rowsI 3 us) :: (rI s27 ((o.eraseIdx (o.idxOf (max n (-n)))) ++ [n])) :: (SX.row (.slice s34.A s34.n s34.c) 36 1 (SX.encS (outs ++ [s27]))) :: (rI v6 fs) :: []) := hS.pickN 7 [3, 6, 2, 4, 5] (by decide) rfl
     replace hS : Sat w0 w ((rowsI 3 ((s15, (o.eraseIdx (o.idxOf (max n (-n))))) :: us)) :: (rI s27 ((o.eraseIdx (o.idxOf (max n (-n)))) ++ [n])) :: (SX.row (.slice s34.A s34.n s34.c) 36 1 (SX.encS (outs ++ [s27]))) :: (rI v6 fs) :: []) := Sat.gainRow hS
     replace hS : Sat w0 w ((rI s27 ((o.eraseIdx (o.idxOf (max n (-n)))) ++ [n])) :: (rowsI 3 ((s15, (o.eraseIdx (o.idxOf (max n (-n))))) :: us)) :: (SX.row (.slice s34.A s34.n s34.c) 36 1 (SX.encS (outs ++ [s27]))) :: (rI v6 fs) :: []) := hS.pickN 4 [1, 0, 2, 3] (by decide) rfl
     replace hS : Sat w0 w ((rowsI 3 ((s27, ((o.eraseIdx (o.idxOf (max n (-n)))) ++ [n])) :: ((s15, (o.eraseIdx (o.idxOf (max n (-n))))) :: us))) :: (SX.row (.slice s34.A s34.n s34.c) 36 1 (SX.encS (outs ++ [s27]))) :: (rI v6 fs) :: []) := Sat.gainRow hS
     replace hS : Sat w0 w ((SX.row (.slice s34.A s34.n s34.c) 36 1 (SX.encS (outs ++ [s27]))) :: (rI v6 fs) :: (rowsI 3 ((s27, ((o.eraseIdx (o.idxOf (max n (-n)))) ++ [n])) :: ((s15, (o.eraseIdx (o.idxOf (max n (-n))))) :: us))) :: []) := hS.pickN 3 [1, 2, 0] (by decide) rfl
     have hmem_ : (s27, ((o.eraseIdx (o.idxOf (max n (-n)))) ++ [n])) ∈ ((s27, ((o.eraseIdx (o.idxOf (max n (-n)))) ++ [n])) :: ((s15, (o.eraseIdx (o.idxOf (max n (-n))))) :: us)) := List.mem_cons_self
     have hstep : bkStep o n = ((o.eraseIdx (o.idxOf (max n (-n)))) ++ [n]) := by unfold bkStep; rw [if_pos c18]; rw [List.erase_eq_eraseIdx_of_idxOf rfl]
     have hbad : bkBad o n = false := by unfold bkBad; have hm : o.contains (max n (-n)) = true := List.contains_iff_mem.2 (idxI_mem.1 c11); rw [hm]; simp; omega
     have hdrop : l0.drop i = n :: l0.drop (i + 1) := by rw [List.drop_eq_getElem_cons hlt, hn0]; simp [List.getD, hlt]
     have hol2 : (((o.eraseIdx (o.idxOf (max n (-n)))) ++ [n])).length ≤ i + 1 := by rw [← hstep]; exact bkStep_length hol
     exact ⟨_, by omega, i + 1, ((o.eraseIdx (o.idxOf (max n (-n)))) ++ [n]), s27, ((s27, ((o.eraseIdx (o.idxOf (max n (-n)))) ++ [n])) :: ((s15, (o.eraseIdx (o.idxOf (max n (-n))))) :: us)), outs ++ [s27], outl ++ [((o.eraseIdx (o.idxOf (max n (-n)))) ++ [n])], fs, ⟨s34.A, s34.n, s34.c⟩, ⟨v6.A, v6.n, v6.c⟩, rfl, by omega, hmem_, hol2, by omega, by rw [List.zip_append hou.1]; exact ⟨by simp [hou.1], fun x hx => (List.mem_append.1 hx).elim (fun hx => have hx := hou.2 x hx; List.mem_cons_of_mem _ (List.mem_cons_of_mem _ (hx))) (fun hx => by rw [List.mem_singleton.1 hx]; exact hmem_)⟩, by rw [List.length_append, hon]; rfl, by rw [hdrop, bkOpens, hstep] at hop; rw [List.append_assoc]; exact hop, by rw [hdrop, bkFaults, hstep, hbad] at hfp; simpa using hfp, ha.keeps [13, 14, 15, 4, 5, 6] _ rfl, hS⟩
    refine jG ha rfl (decide_eq_false c18) ?_
    refine wp_skip (jQ (jY [0, 1, 2, 3, 4] (jX [(0, 54, .slice v5.A v5.n v5.c), (1, 55, .slice s15.A s15.n s15.c)] ha fun a ha => ?_)))
    refine jV (xQ 56 [.slice s15.A s15.n s15.c] 36 (fun b => .slice (some ⟨b, 0, none⟩) 1 1) ha hS fun b36 w a hb37 hS ha => ?_)
    refine jV (zW (news := [.slice s15.A s15.n s15.c]) (z := .slice none 0 0) (sz := 1) (bytes := 24) (T2 := 36) (xs' := SX.encS (outs ++ [s15])) 2 0 ha (by decide) (yU (op := (Op.call { callee := (Callee.builtin Builtin.append), args := #[(Operand.tmp 54), (Operand.tmp 56)], argTypes := #[160, 160] })) (d := some 57) (ty := 160)) rfl rfl (by kernel_rfl) (by kernel_rfl) rfl (by decide) hS rfl rfl (by simp) rfl (by rw [encS_length]; simp; omega) (by decide) (encS_snoc _ _) fun s41 w a hS hn42 ha => ?_)
    refine jX [(4, 5, .slice s41.A s41.n s41.c)] ha fun a ha => ?_
    refine jK (in_n (jQ (jY [0, 1] (zK 58 ((i : Int) + 1) ha fun a ha => ?_))))
    refine jX [(1, 15, iv ((i : Int) + 1))] ha fun a ha => ?_
    refine jK (jQ ?_)
    replace hS : Sat w0 w ((rI s15 (o.eraseIdx (o.idxOf (max n (-n))))) :: (rowsI 3 us) :: (SX.row (.slice s41.A s41.n s41.c) 36 1 (SX.encS (outs ++ [s15]))) :: (rI v6 fs) :: []) := hS.pickN 5 [1, 4, 2, 3] (by decide) rfl
    replace hS : Sat w0 w ((rowsI 3 ((s15, (o.eraseIdx (o.idxOf (max n (-n))))) :: us)) :: (SX.row (.slice s41.A s41.n s41.c) 36 1 (SX.encS (outs ++ [s15]))) :: (rI v6 fs) :: []) := Sat.gainRow hS
    replace hS : Sat w0 w ((SX.row (.slice s41.A s41.n s41.c) 36 1 (SX.encS (outs ++ [s15]))) :: (rI v6 fs) :: (rowsI 3 ((s15, (o.eraseIdx (o.idxOf (max n (-n))))) :: us)) :: []) := hS.pickN 3 [1, 2, 0] (by decide) rfl
    have hmem_ : (s15, (o.eraseIdx (o.idxOf (max n (-n))))) ∈ ((s15, (o.eraseIdx (o.idxOf (max n (-n))))) :: us) := List.mem_cons_self
    have hstep : bkStep o n = (o.eraseIdx (o.idxOf (max n (-n)))) := by unfold bkStep; rw [if_neg c18]; rw [List.erase_eq_eraseIdx_of_idxOf rfl]
    have hbad : bkBad o n = false := by unfold bkBad; have hm : o.contains (max n (-n)) = true := List.contains_iff_mem.2 (idxI_mem.1 c11); rw [hm]; simp; omega
    have hdrop : l0.drop i = n :: l0.drop (i + 1) := by rw [List.drop_eq_getElem_cons hlt, hn0]; simp [List.getD, hlt]
    have hol2 : ((o.eraseIdx (o.idxOf (max n (-n))))).length ≤ i + 1 := by rw [← hstep]; exact bkStep_length hol
    exact ⟨_, by omega, i + 1, (o.eraseIdx (o.idxOf (max n (-n)))), s15, ((s15, (o.eraseIdx (o.idxOf (max n (-n))))) :: us), outs ++ [s15], outl ++ [(o.eraseIdx (o.idxOf (max n (-n))))], fs, ⟨s41.A, s41.n, s41.c⟩, ⟨v6.A, v6.n, v6.c⟩, rfl, by omega, hmem_, hol2, by omega, by rw [List.zip_append hou.1]; exact ⟨by simp [hou.1], fun x hx => (List.mem_append.1 hx).elim (fun hx => have hx := hou.2 x hx; List.mem_cons_of_mem _ (hx)) (fun hx => by rw [List.mem_singleton.1 hx]; exact hmem_)⟩, by rw [List.length_append, hon]; rfl, by rw [hdrop, bkOpens, hstep] at hop; rw [List.append_assoc]; exact hop, by rw [hdrop, bkFaults, hstep, hbad] at hfp; simpa using hfp, ha.keeps [13, 14, 15, 4, 5, 6] _ rfl, hS⟩
   refine jG ha rfl (decide_eq_false c11) ?_
   refine wp_skip (jQ (wp_seq (wp_seq (jY [0, 1] (jX [(0, 47, iv n), (1, 48, .bool (decide (n > 0)))] ha fun a ha => ?_)))))
   refine jK (jQ ?_)
   by_cases c43 : n > 0
   ·
    refine qX ha rfl (decide_eq_true c43) ?_
    refine jY [0, 1, 2, 3, 4, 5] (jX [(0, 49, .slice so.A so.n so.c)] ha fun a ha => ?_)
    have hlen_ : (o).length ≤ 1000000 := by omega
    refine jV (qH 50 (vs := [.slice so.A so.n so.c]) ha (clone_sat hS (hS.rdRows (s := so) (l := o) 2 rfl hso) hlen_) fun v45 w a hp46 ha => ?_)
    obtain ⟨s44, rfl, hS⟩ := hp46
    refine jX [(2, 51, iv n)] ha fun a ha => ?_
    refine jV (xQ 52 [iv n] 3 (fun b => .slice (some ⟨b, 0, none⟩) 1 1) ha hS fun b47 w a hb48 hS ha => ?_)
    refine jV (zW (news := [iv n]) (z := iv 0) (sz := 1) (bytes := 8) (T2 := 3) (xs' := SX.encI (o ++ [n])) 1 0 ha (by decide) (yU (op := (Op.call { callee := (Callee.builtin Builtin.append), args := #[(Operand.tmp 50), (Operand.tmp 52)], argTypes := #[36, 36] })) (d := some 53) (ty := 36)) rfl rfl (by kernel_rfl) (by kernel_rfl) rfl (by decide) hS rfl rfl (by simp) rfl (by rw [SX.encI_length]; simp; first | omega | (have hle_ := List.length_eraseIdx_le o (o.idxOf (max n (-n))); omega)) (by decide) (encI_snoc _ _) fun s52 w a hS hn53 ha => ?_)
    refine jX [(5, 4, .slice s52.A s52.n s52.c)] ha fun a ha => ?_
    refine jK (jQ (jY [0, 1, 2, 3, 4] (jX [(0, 54, .slice v5.A v5.n v5.c), (1, 55, .slice s52.A s52.n s52.c)] ha fun a ha => ?_)))
    refine jV (xQ 56 [.slice s52.A s52.n s52.c] 36 (fun b => .slice (some ⟨b, 0, none⟩) 1 1) ha hS fun b54 w a hb55 hS ha => ?_)
    refine jV (zW (news := [.slice s52.A s52.n s52.c]) (z := .slice none 0 0) (sz := 1) (bytes := 24) (T2 := 36) (xs' := SX.encS (outs ++ [s52])) 3 0 ha (by decide) (yU (op := (Op.call { callee := (Callee.builtin Builtin.append), args := #[(Operand.tmp 54), (Operand.tmp 56)], argTypes := #[160, 160] })) (d := some 57) (ty := 160)) rfl rfl (by kernel_rfl) (by kernel_rfl) rfl (by decide) hS rfl rfl (by simp) rfl (by rw [encS_length]; simp; omega) (by decide) (encS_snoc _ _) fun s59 w a hS hn60 ha => ?_)
    refine jX [(4, 5, .slice s59.A s59.n s59.c)] ha fun a ha => ?_
    refine jK (in_n (jQ (jY [0, 1] (zK 58 ((i : Int) + 1) ha fun a ha => ?_))))
    refine jX [(1, 15, iv ((i : Int) + 1))] ha fun a ha => ?_
    refine jK (jQ ?_)
    replace hS : Sat w0 w ((rI s52 (o ++ [n])) :: (rowsI 3 us) :: (SX.row (.slice s59.A s59.n s59.c) 36 1 (SX.encS (outs ++ [s52]))) :: (rI v6 fs) :: []) := hS.pickN 6 [2, 5, 3, 4] (by decide) rfl
    replace hS : Sat w0 w ((rowsI 3 ((s52, (o ++ [n])) :: us)) :: (SX.row (.slice s59.A s59.n s59.c) 36 1 (SX.encS (outs ++ [s52]))) :: (rI v6 fs) :: []) := Sat.gainRow hS
    replace hS : Sat w0 w ((SX.row (.slice s59.A s59.n s59.c) 36 1 (SX.encS (outs ++ [s52]))) :: (rI v6 fs) :: (rowsI 3 ((s52, (o ++ [n])) :: us)) :: []) := hS.pickN 3 [1, 2, 0] (by decide) rfl
    have hmem_ : (s52, (o ++ [n])) ∈ ((s52, (o ++ [n])) :: us) := List.mem_cons_self
    have hstep : bkStep o n = (o ++ [n]) := by unfold bkStep; rw [if_pos c43]; rw [List.erase_of_not_mem (fun h => c11 (idxI_mem.2 h))]
    have hbad : bkBad o n = false := by unfold bkBad; have hm : o.contains (max n (-n)) = false := Bool.eq_false_iff.2 fun h => c11 (idxI_mem.2 (List.contains_iff_mem.1 h)); rw [hm]; simp; omega
    have hdrop : l0.drop i = n :: l0.drop (i + 1) := by rw [List.drop_eq_getElem_cons hlt, hn0]; simp [List.getD, hlt]
    have hol2 : ((o ++ [n])).length ≤ i + 1 := by rw [← hstep]; exact bkStep_length hol
    exact ⟨_, by omega, i + 1, (o ++ [n]), s52, ((s52, (o ++ [n])) :: us), outs ++ [s52], outl ++ [(o ++ [n])], fs, ⟨s59.A, s59.n, s59.c⟩, ⟨v6.A, v6.n, v6.c⟩, rfl, by omega, hmem_, hol2, by omega, by rw [List.zip_append hou.1]; exact ⟨by simp [hou.1], fun x hx => (List.mem_append.1 hx).elim (fun hx => have hx := hou.2 x hx; List.mem_cons_of_mem _ (hx)) (fun hx => by rw [List.mem_singleton.1 hx]; exact hmem_)⟩, by rw [List.length_append, hon]; rfl, by rw [hdrop, bkOpens, hstep] at hop; rw [List.append_assoc]; exact hop, by rw [hdrop, bkFaults, hstep, hbad] at hfp; simpa using hfp, ha.keeps [13, 14, 15, 4, 5, 6] _ rfl, hS⟩
   refine jG ha rfl (decide_eq_false c43) ?_
   refine wp_skip (jQ (jY [0, 1, 2, 3, 4] (jX [(0, 54, .slice v5.A v5.n v5.c), (1, 55, .slice so.A so.n so.c)] ha fun a ha => ?_)))
   refine jV (xQ 56 [.slice so.A so.n so.c] 36 (fun b => .slice (some ⟨b, 0, none⟩) 1 1) ha hS fun b61 w a hb62 hS ha => ?_)
   refine jV (zW (news := [.slice so.A so.n so.c]) (z := .slice none 0 0) (sz := 1) (bytes := 24) (T2 := 36) (xs' := SX.encS (outs ++ [so])) 1 0 ha (by decide) (yU (op := (Op.call { callee := (Callee.builtin Builtin.append), args := #[(Operand.tmp 54), (Operand.tmp 56)], argTypes := #[160, 160] })) (d := some 57) (ty := 160)) rfl rfl (by kernel_rfl) (by kernel_rfl) rfl (by decide) hS rfl rfl (by simp) rfl (by rw [encS_length]; simp; omega) (by decide) (encS_snoc _ _) fun s66 w a hS hn67 ha => ?_)
   refine jX [(4, 5, .slice s66.A s66.n s66.c)] ha fun a ha => ?_
   refine jK (in_n (jQ (jY [0, 1] (zK 58 ((i : Int) + 1) ha fun a ha => ?_))))
   refine jX [(1, 15, iv ((i : Int) + 1))] ha fun a ha => ?_
   refine jK (jQ ?_)
   replace hS : Sat w0 w ((SX.row (.slice s66.A s66.n s66.c) 36 1 (SX.encS (outs ++ [so]))) :: (rI v6 fs) :: (rowsI 3 us) :: []) := hS.pickN 4 [1, 2, 3] (by decide) rfl
   have hmem_ : (so, o) ∈ us := hso
   have hstep : bkStep o n = o := by unfold bkStep; rw [if_neg c43]; rw [List.erase_of_not_mem (fun h => c11 (idxI_mem.2 h))]
   have hbad : bkBad o n = false := by unfold bkBad; have hm : o.contains (max n (-n)) = false := Bool.eq_false_iff.2 fun h => c11 (idxI_mem.2 (List.contains_iff_mem.1 h)); rw [hm]; simp; omega
   have hdrop : l0.drop i = n :: l0.drop (i + 1) := by rw [List.drop_eq_getElem_cons hlt, hn0]; simp [List.getD, hlt]
   have hol2 : (o).length ≤ i + 1 := by rw [← hstep]; exact bkStep_length hol
   exact ⟨_, by omega, i + 1, o, so, us, outs ++ [so], outl ++ [o], fs, ⟨s66.A, s66.n, s66.c⟩, ⟨v6.A, v6.n, v6.c⟩, rfl, by omega, hmem_, hol2, by omega, by rw [List.zip_append hou.1]; exact ⟨by simp [hou.1], fun x hx => (List.mem_append.1 hx).elim (fun hx => have hx := hou.2 x hx; hx) (fun hx => by rw [List.mem_singleton.1 hx]; exact hmem_)⟩, by rw [List.length_append, hon]; rfl, by rw [hdrop, bkOpens, hstep] at hop; rw [List.append_assoc]; exact hop, by rw [hdrop, bkFaults, hstep, hbad] at hfp; simpa using hfp, ha.keeps [13, 14, 15, 4, 5, 6] _ rfl, hS⟩
  replace ha := ha.turn 27 (.bool true) rfl (congrArg Value.bool (kY (decide_eq_false c10)))
  replace ha := ha.turn 28 (.bool true) rfl (congrArg Value.bool (kY (decide_eq_false c10)))
  refine jX [(3, 29, iv n), (4, 30, .bool (decide (n > 0))), (5, 31, iv (idxI o (max n (-n)))), (6, 32, .bool (decide ((idxI o (max n (-n))) ≥ 0)))] ha fun a ha => ?_
  by_cases c68 : n > 0
  ·
   replace ha := ha.turn 30 (.bool true) rfl (congrArg Value.bool (decide_eq_true c68))
   by_cases c69 : (idxI o (max n (-n))) ≥ 0
   ·
    replace ha := ha.turn 32 (.bool true) rfl (congrArg Value.bool (decide_eq_true c69))
    refine jX [(7, 33, .bool true), (8, 34, .bool true)] ha fun a ha => ?_
    refine jK (jQ ?_)
    refine qX ha rfl rfl ?_
    refine jY [0, 1, 2, 3, 4] (jX [(0, 35, .slice v6.A v6.n v6.c), (1, 36, iv (i : Int))] ha fun a ha => ?_)
    refine jV (xQ 37 [iv (i : Int)] 3 (fun b => .slice (some ⟨b, 0, none⟩) 1 1) ha hS fun b70 w a hb71 hS ha => ?_)
    refine jV (zW (news := [iv (i : Int)]) (z := iv 0) (sz := 1) (bytes := 8) (T2 := 3) (xs' := SX.encI (fs ++ [(i : Int)])) 2 0 ha (by decide) (yU (op := (Op.call { callee := (Callee.builtin Builtin.append), args := #[(Operand.tmp 35), (Operand.tmp 37)], argTypes := #[36, 36] })) (d := some 38) (ty := 36)) rfl rfl (by kernel_rfl) (by kernel_rfl) rfl (by decide) hS rfl rfl (by simp) rfl (by rw [SX.encI_length]; simp; omega) (by decide) (encI_snoc _ _) fun s75 w a hS hn76 ha => ?_)
    refine jX [(4, 6, .slice s75.A s75.n s75.c)] ha fun a ha => ?_
    refine jK (jQ (wp_seq (wp_seq (jY [0, 1] (jX [(0, 39, iv (idxI o (max n (-n)))), (1, 40, .bool (decide ((idxI o (max n (-n))) ≥ 0)))] ha fun a ha => ?_)))))
    refine jK (jQ ?_)
    refine qX ha rfl (decide_eq_true c69) ?_
    refine jY [0, 1, 2, 3, 4, 5, 6] (jX [(0, 41, .slice so.A so.n so.c)] ha fun a ha => ?_)
    have hlen_ : (o).length ≤ 1000000 := by omega
    refine jV (qH 42 (vs := [.slice so.A so.n so.c]) ha (clone_sat hS (hS.rdRows (s := so) (l := o) 3 rfl hso) hlen_) fun v78 w a hp79 ha => ?_)
    obtain ⟨s77, rfl, hS⟩ := hp79
    refine jX [(2, 43, iv (idxI o (max n (-n)))), (3, 44, iv (idxI o (max n (-n))))] ha fun a ha => ?_
    refine zK 45 ((idxI o (max n (-n))) + 1) ha fun a ha => ?_
    replace hS : Sat w0 w ((rI s77 o) :: (SX.blk b70 [iv (i : Int)] 3) :: (SX.row (.slice v5.A v5.n v5.c) 36 1 (SX.encS outs)) :: (rI s75 (fs ++ [(i : Int)])) :: (rowsI 3 us) :: []) := hS
    have hin : (max n (-n)) ∈ o := idxI_mem.1 c69
    have hidx : idxI o (max n (-n)) = (o.idxOf (max n (-n)) : Int) := if_pos hin
    refine jV (o_ret (Post := fun r w' => ∃ s' : Sl, r = s'.v ∧ Sat w0 w' ((rI s' (o.eraseIdx (o.idxOf (max n (-n))))) :: (SX.blk b70 [iv (i : Int)] 3) :: (SX.row (.slice v5.A v5.n v5.c) 36 1 (SX.encS outs)) :: (rI s75 (fs ++ [(i : Int)])) :: (rowsI 3 us) :: [])) ha (by decide) (yU (op := (Op.call { callee := (Callee.value (Operand.func 142)), args := #[(Operand.tmp 42), (Operand.tmp 43), (Operand.tmp 45)], argTypes := #[36, 3, 3] })) (d := some 46) (ty := 36)) rfl Try.func142 (by kernel_rfl) (by rw [hidx]; exact delete_sat hS _ (List.idxOf_lt_length_of_mem hin) (by omega)) (fun v81 w a hp82 ha => ?_))
    obtain ⟨s80, rfl, hS⟩ := hp82
    have ha : Has 61 [(13, .slice s0.A s0.n s0.c), (14, iv (s0.n : Int)), (15, iv (i : Int)), (4, .slice so.A so.n so.c), (5, .slice v5.A v5.n v5.c), (16, .bool (decide ((i : Int) < (s0.n : Int)))), (17, iv (i : Int)), (18, .pointer (some ⟨bk s0, of_ s0 + i * 1, none⟩)), (19, iv n), (7, iv (i : Int)), (8, iv n), (20, .slice so.A so.n so.c), (21, iv n), (22, iv n), (23, iv (-n)), (24, iv (max n (-n))), (25, iv (idxI o (max n (-n)))), (9, iv (idxI o (max n (-n)))), (26, iv n), (27, .bool true), (28, .bool true), (29, iv n), (30, .bool true), (31, iv (idxI o (max n (-n)))), (32, .bool true), (33, .bool true), (34, .bool true), (35, .slice v6.A v6.n v6.c), (36, iv (i : Int)), (37, .slice (some ⟨b70, 0, none⟩) 1 1), (38, .slice s75.A s75.n s75.c), (6, .slice s75.A s75.n s75.c), (39, iv (idxI o (max n (-n)))), (40, .bool (decide ((idxI o (max n (-n))) ≥ 0))), (41, .slice so.A so.n so.c), (42, .slice s77.A s77.n s77.c), (43, iv (idxI o (max n (-n)))), (44, iv (idxI o (max n (-n)))), (45, iv ((idxI o (max n (-n))) + 1)), (46, .slice s80.A s80.n s80.c)] a := ha.keeps [13, 14, 15, 4, 5, 16, 17, 18, 19, 7, 8, 20, 21, 22, 23, 24, 25, 9, 26, 27, 28, 29, 30, 31, 32, 33, 34, 35, 36, 37, 38, 6, 39, 40, 41, 42, 43, 44, 45, 46] _ rfl
    refine jX [(6, 4, .slice s80.A s80.n s80.c)] ha fun a ha => ?_
    refine jK (jQ (wp_seq (wp_seq (jY [0, 1] (jX [(0, 47, iv n), (1, 48, .bool (decide (n > 0)))] ha fun a ha => ?_)))))
    refine jK (jQ ?_)
    refine qX ha rfl (decide_eq_true c68) ?_
    refine jY [0, 1, 2, 3, 4, 5] (jX [(0, 49, .slice s80.A s80.n s80.c)] ha fun a ha => ?_)
    have hlen_ : ((o.eraseIdx (o.idxOf (max n (-n))))).length ≤ 1000000 := by rw [List.length_eraseIdx]; split <;> omega
    refine jV (qH 50 (vs := [.slice s80.A s80.n s80.c]) ha (clone_sat hS (hS.rdRow (s := s80) (l := (o.eraseIdx (o.idxOf (max n (-n))))) 0 rfl) hlen_) fun v84 w a hp85 ha => ?_)
    obtain ⟨s83, rfl, hS⟩ := hp85
    refine jX [(2, 51, iv n)] ha fun a ha => ?_
    refine jV (xQ 52 [iv n] 3 (fun b => .slice (some ⟨b, 0, none⟩) 1 1) ha hS fun b86 w a hb87 hS ha => ?_)
    refine jV (zW (news := [iv n]) (z := iv 0) (sz := 1) (bytes := 8) (T2 := 3) (xs' := SX.encI ((o.eraseIdx (o.idxOf (max n (-n)))) ++ [n])) 1 0 ha (by decide) (yU (op := (Op.call { callee := (Callee.builtin Builtin.append), args := #[(Operand.tmp 50), (Operand.tmp 52)], argTypes := #[36, 36] })) (d := some 53) (ty := 36)) rfl rfl (by kernel_rfl) (by kernel_rfl) rfl (by decide) hS rfl rfl (by simp) rfl (by rw [SX.encI_length]; simp; first | omega | (have hle_ := List.length_eraseIdx_le o (o.idxOf (max n (-n))); omega)) (by decide) (encI_snoc _ _) fun s91 w a hS hn92 ha => ?_)
    refine jX [(5, 4, .slice s91.A s91.n s91.c)] ha fun a ha => ?_
    refine jK (jQ (jY [0, 1, 2, 3, 4] (jX [(0, 54, .slice v5.A v5.n v5.c), (1, 55, .slice s91.A s91.n s91.c)] ha fun a ha => ?_)))
    refine jV (xQ 56 [.slice s91.A s91.n s91.c] 36 (fun b => .slice (some ⟨b, 0, none⟩) 1 1) ha hS fun b93 w a hb94 hS ha => ?_)
    refine jV (zW (news := [.slice s91.A s91.n s91.c]) (z := .slice none 0 0) (sz := 1) (bytes := 24) (T2 := 36) (xs' := SX.encS (outs ++ [s91])) 5 0 ha (by decide) (yU (op := (Op.call { callee := (Callee.builtin Builtin.append), args := #[(Operand.tmp 54), (Operand.tmp 56)], argTypes := #[160, 160] })) (d := some 57) (ty := 160)) rfl rfl (by kernel_rfl) (by kernel_rfl) rfl (by decide) hS rfl rfl (by simp) rfl (by rw [encS_length]; simp; omega) (by decide) (encS_snoc _ _) fun s98 w a hS hn99 ha => ?_)
    refine jX [(4, 5, .slice s98.A s98.n s98.c)] ha fun a ha => ?_
    refine jK (in_n (jQ (jY [0, 1] (zK 58 ((i : Int) + 1) ha fun a ha => ?_))))
    refine jX [(1, 15, iv ((i : Int) + 1))] ha fun a ha => ?_
    refine jK (jQ ?_)
    replace hS : Sat w0 w ((rI s80 (o.eraseIdx (o.idxOf (max n (-n))))) :: (rowsI 3 us) :: (rI s91 ((o.eraseIdx (o.idxOf (max n (-n)))) ++ [n])) :: (SX.row (.slice s98.A s98.n s98.c) 36 1 (SX.encS (outs ++ [s91]))) :: (rI s75 (fs ++ [(i : Int)])) :: []) := hS.pickN 8 [3, 7, 2, 5, 6] (by decide) rfl
    replace hS : Sat w0 w ((rowsI 3 ((s80, (o.eraseIdx (o.idxOf (max n (-n))))) :: us)) :: (rI s91 ((o.eraseIdx (o.idxOf (max n (-n)))) ++ [n])) :: (SX.row (.slice s98.A s98.n s98.c) 36 1 (SX.encS (outs ++ [s91]))) :: (rI s75 (fs ++ [(i : Int)])) :: []) := Sat.gainRow hS
    replace hS : Sat w0 w ((rI s91 ((o.eraseIdx (o.idxOf (max n (-n)))) ++ [n])) :: (rowsI 3 ((s80, (o.eraseIdx (o.idxOf (max n (-n))))) :: us)) :: (SX.row (.slice s98.A s98.n s98.c) 36 1 (SX.encS (outs ++ [s91]))) :: (rI s75 (fs ++ [(i : Int)])) :: []) := hS.pickN 4 [1, 0, 2, 3] (by decide) rfl
    replace hS : Sat w0 w ((rowsI 3 ((s91, ((o.eraseIdx (o.idxOf (max n (-n)))) ++ [n])) :: ((s80, (o.eraseIdx (o.idxOf (max n (-n))))) :: us))) :: (SX.row (.slice s98.A s98.n s98.c) 36 1 (SX.encS (outs ++ [s91]))) :: (rI s75 (fs ++ [(i : Int)])) :: []) := Sat.gainRow hS
    replace hS : Sat w0 w ((SX.row (.slice s98.A s98.n s98.c) 36 1 (SX.encS (outs ++ [s91]))) :: (rI s75 (fs ++ [(i : Int)])) :: (rowsI 3 ((s91, ((o.eraseIdx (o.idxOf (max n (-n)))) ++ [n])) :: ((s80, (o.eraseIdx (o.idxOf (max n (-n))))) :: us))) :: []) := hS.pickN 3 [1, 2, 0] (by decide) rfl
    have hmem_ : (s91, ((o.eraseIdx (o.idxOf (max n (-n)))) ++ [n])) ∈ ((s91, ((o.eraseIdx (o.idxOf (max n (-n)))) ++ [n])) :: ((s80, (o.eraseIdx (o.idxOf (max n (-n))))) :: us)) := List.mem_cons_self
    have hstep : bkStep o n = ((o.eraseIdx (o.idxOf (max n (-n)))) ++ [n]) := by unfold bkStep; rw [if_pos c68]; rw [List.erase_eq_eraseIdx_of_idxOf rfl]
    have hbad : bkBad o n = true := by unfold bkBad; have hm : o.contains (max n (-n)) = true := List.contains_iff_mem.2 (idxI_mem.1 c69); rw [hm]; simp; omega
    have hdrop : l0.drop i = n :: l0.drop (i + 1) := by rw [List.drop_eq_getElem_cons hlt, hn0]; simp [List.getD, hlt]
    have hol2 : (((o.eraseIdx (o.idxOf (max n (-n)))) ++ [n])).length ≤ i + 1 := by rw [← hstep]; exact bkStep_length hol
    exact ⟨_, by omega, i + 1, ((o.eraseIdx (o.idxOf (max n (-n)))) ++ [n]), s91, ((s91, ((o.eraseIdx (o.idxOf (max n (-n)))) ++ [n])) :: ((s80, (o.eraseIdx (o.idxOf (max n (-n))))) :: us)), outs ++ [s91], outl ++ [((o.eraseIdx (o.idxOf (max n (-n)))) ++ [n])], fs ++ [(i : Int)], ⟨s98.A, s98.n, s98.c⟩, ⟨s75.A, s75.n, s75.c⟩, rfl, by omega, hmem_, hol2, by rw [List.length_append]; simp; omega, by rw [List.zip_append hou.1]; exact ⟨by simp [hou.1], fun x hx => (List.mem_append.1 hx).elim (fun hx => have hx := hou.2 x hx; List.mem_cons_of_mem _ (List.mem_cons_of_mem _ (hx))) (fun hx => by rw [List.mem_singleton.1 hx]; exact hmem_)⟩, by rw [List.length_append, hon]; rfl, by rw [hdrop, bkOpens, hstep] at hop; rw [List.append_assoc]; exact hop, by rw [hdrop, bkFaults, hstep, hbad] at hfp; rw [List.append_assoc]; exact hfp, ha.keeps [13, 14, 15, 4, 5, 6] _ rfl, hS⟩
   replace ha := ha.turn 32 (.bool false) rfl (congrArg Value.bool (decide_eq_false c69))
   refine jX [(7, 33, .bool false), (8, 34, .bool false)] ha fun a ha => ?_
   refine jK (jQ ?_)
   refine jG ha rfl rfl ?_
   refine wp_skip (jQ (wp_seq (wp_seq (jY [0, 1] (jX [(0, 39, iv (idxI o (max n (-n)))), (1, 40, .bool (decide ((idxI o (max n (-n))) ≥ 0)))] ha fun a ha => ?_)))))
   refine jK (jQ ?_)
   refine jG ha rfl (decide_eq_false c69) ?_
   refine wp_skip (jQ (wp_seq (wp_seq (jY [0, 1] (jX [(0, 47, iv n), (1, 48, .bool (decide (n > 0)))] ha fun a ha => ?_)))))
   refine jK (jQ ?_)
   refine qX ha rfl (decide_eq_true c68) ?_
   refine jY [0, 1, 2, 3, 4, 5] (jX [(0, 49, .slice so.A so.n so.c)] ha fun a ha => ?_)
   have hlen_ : (o).length ≤ 1000000 := by omega
   refine jV (qH 50 (vs := [.slice so.A so.n so.c]) ha (clone_sat hS (hS.rdRows (s := so) (l := o) 2 rfl hso) hlen_) fun v101 w a hp102 ha => ?_)
   obtain ⟨s100, rfl, hS⟩ := hp102
   refine jX [(2, 51, iv n)] ha fun a ha => ?_
   refine jV (xQ 52 [iv n] 3 (fun b => .slice (some ⟨b, 0, none⟩) 1 1) ha hS fun b103 w a hb104 hS ha => ?_)
   refine jV (zW (news := [iv n]) (z := iv 0) (sz := 1) (bytes := 8) (T2 := 3) (xs' := SX.encI (o ++ [n])) 1 0 ha (by decide) (yU (op := (Op.call { callee := (Callee.builtin Builtin.append), args := #[(Operand.tmp 50), (Operand.tmp 52)], argTypes := #[36, 36] })) (d := some 53) (ty := 36)) rfl rfl (by kernel_rfl) (by kernel_rfl) rfl (by decide) hS rfl rfl (by simp) rfl (by rw [SX.encI_length]; simp; first | omega | (have hle_ := List.length_eraseIdx_le o (o.idxOf (max n (-n))); omega)) (by decide) (encI_snoc _ _) fun s108 w a hS hn109 ha => ?_)
   refine jX [(5, 4, .slice s108.A s108.n s108.c)] ha fun a ha => ?_
   refine jK (jQ (jY [0, 1, 2, 3, 4] (jX [(0, 54, .slice v5.A v5.n v5.c), (1, 55, .slice s108.A s108.n s108.c)] ha fun a ha => ?_)))
   refine jV (xQ 56 [.slice s108.A s108.n s108.c] 36 (fun b => .slice (some ⟨b, 0, none⟩) 1 1) ha hS fun b110 w a hb111 hS ha => ?_)
   refine jV (zW (news := [.slice s108.A s108.n s108.c]) (z := .slice none 0 0) (sz := 1) (bytes := 24) (T2 := 36) (xs' := SX.encS (outs ++ [s108])) 3 0 ha (by decide) (yU (op := (Op.call { callee := (Callee.builtin Builtin.append), args := #[(Operand.tmp 54), (Operand.tmp 56)], argTypes := #[160, 160] })) (d := some 57) (ty := 160)) rfl rfl (by kernel_rfl) (by kernel_rfl) rfl (by decide) hS rfl rfl (by simp) rfl (by rw [encS_length]; simp; omega) (by decide) (encS_snoc _ _) fun s115 w a hS hn116 ha => ?_)
   refine jX [(4, 5, .slice s115.A s115.n s115.c)] ha fun a ha => ?_
   refine jK (in_n (jQ (jY [0, 1] (zK 58 ((i : Int) + 1) ha fun a ha => ?_))))
   refine jX [(1, 15, iv ((i : Int) + 1))] ha fun a ha => ?_
   refine jK (jQ ?_)
   replace hS : Sat w0 w ((rI s108 (o ++ [n])) :: (rowsI 3 us) :: (SX.row (.slice s115.A s115.n s115.c) 36 1 (SX.encS (outs ++ [s108]))) :: (rI v6 fs) :: []) := hS.pickN 6 [2, 5, 3, 4] (by decide) rfl
   replace hS : Sat w0 w ((rowsI 3 ((s108, (o ++ [n])) :: us)) :: (SX.row (.slice s115.A s115.n s115.c) 36 1 (SX.encS (outs ++ [s108]))) :: (rI v6 fs) :: []) := Sat.gainRow hS
   replace hS : Sat w0 w ((SX.row (.slice s115.A s115.n s115.c) 36 1 (SX.encS (outs ++ [s108]))) :: (rI v6 fs) :: (rowsI 3 ((s108, (o ++ [n])) :: us)) :: []) := hS.pickN 3 [1, 2, 0] (by decide) rfl
   have hmem_ : (s108, (o ++ [n])) ∈ ((s108, (o ++ [n])) :: us) := List.mem_cons_self
   have hstep : bkStep o n = (o ++ [n]) := by unfold bkStep; rw [if_pos c68]; rw [List.erase_of_not_mem (fun h => c69 (idxI_mem.2 h))]
   have hbad : bkBad o n = false := by unfold bkBad; have hm : o.contains (max n (-n)) = false := Bool.eq_false_iff.2 fun h => c69 (idxI_mem.2 (List.contains_iff_mem.1 h)); rw [hm]; simp; omega
   have hdrop : l0.drop i = n :: l0.drop (i + 1) := by rw [List.drop_eq_getElem_cons hlt, hn0]; simp [List.getD, hlt]
   have hol2 : ((o ++ [n])).length ≤ i + 1 := by rw [← hstep]; exact bkStep_length hol
   exact ⟨_, by omega, i + 1, (o ++ [n]), s108, ((s108, (o ++ [n])) :: us), outs ++ [s108], outl ++ [(o ++ [n])], fs, ⟨s115.A, s115.n, s115.c⟩, ⟨v6.A, v6.n, v6.c⟩, rfl, by omega, hmem_, hol2, by omega, by rw [List.zip_append hou.1]; exact ⟨by simp [hou.1], fun x hx => (List.mem_append.1 hx).elim (fun hx => have hx := hou.2 x hx; List.mem_cons_of_mem _ (hx)) (fun hx => by rw [List.mem_singleton.1 hx]; exact hmem_)⟩, by rw [List.length_append, hon]; rfl, by rw [hdrop, bkOpens, hstep] at hop; rw [List.append_assoc]; exact hop, by rw [hdrop, bkFaults, hstep, hbad] at hfp; simpa using hfp, ha.keeps [13, 14, 15, 4, 5, 6] _ rfl, hS⟩
  replace ha := ha.turn 30 (.bool false) rfl (congrArg Value.bool (decide_eq_false c68))
  by_cases c117 : (idxI o (max n (-n))) ≥ 0
  ·
   replace ha := ha.turn 32 (.bool true) rfl (congrArg Value.bool (decide_eq_true c117))
   refine jX [(7, 33, .bool false), (8, 34, .bool false)] ha fun a ha => ?_
   refine jK (jQ ?_)
   refine jG ha rfl rfl ?_
   refine wp_skip (jQ (wp_seq (wp_seq (jY [0, 1] (jX [(0, 39, iv (idxI o (max n (-n)))), (1, 40, .bool (decide ((idxI o (max n (-n))) ≥ 0)))] ha fun a ha => ?_)))))
   refine jK (jQ ?_)
   refine qX ha rfl (decide_eq_true c117) ?_
   refine jY [0, 1, 2, 3, 4, 5, 6] (jX [(0, 41, .slice so.A so.n so.c)] ha fun a ha => ?_)
   have hlen_ : (o).length ≤ 1000000 := by omega
   refine jV (qH 42 (vs := [.slice so.A so.n so.c]) ha (clone_sat hS (hS.rdRows (s := so) (l := o) 2 rfl hso) hlen_) fun v119 w a hp120 ha => ?_)
   obtain ⟨s118, rfl, hS⟩ := hp120
   refine jX [(2, 43, iv (idxI o (max n (-n)))), (3, 44, iv (idxI o (max n (-n))))] ha fun a ha => ?_
   refine zK 45 ((idxI o (max n (-n))) + 1) ha fun a ha => ?_
   replace hS : Sat w0 w ((rI s118 o) :: (SX.row (.slice v5.A v5.n v5.c) 36 1 (SX.encS outs)) :: (rI v6 fs) :: (rowsI 3 us) :: []) := hS
   have hin : (max n (-n)) ∈ o := idxI_mem.1 c117
   have hidx : idxI o (max n (-n)) = (o.idxOf (max n (-n)) : Int) := if_pos hin
   refine jV (o_ret (Post := fun r w' => ∃ s' : Sl, r = s'.v ∧ Sat w0 w' ((rI s' (o.eraseIdx (o.idxOf (max n (-n))))) :: (SX.row (.slice v5.A v5.n v5.c) 36 1 (SX.encS outs)) :: (rI v6 fs) :: (rowsI 3 us) :: [])) ha (by decide) (yU (op := (Op.call { callee := (Callee.value (Operand.func 142)), args := #[(Operand.tmp 42), (Operand.tmp 43), (Operand.tmp 45)], argTypes := #[36, 3, 3] })) (d := some 46) (ty := 36)) rfl Try.func142 (by kernel_rfl) (by rw [hidx]; exact delete_sat hS _ (List.idxOf_lt_length_of_mem hin) (by omega)) (fun v122 w a hp123 ha => ?_))
   obtain ⟨s121, rfl, hS⟩ := hp123
   have ha : Has 61 [(13, .slice s0.A s0.n s0.c), (14, iv (s0.n : Int)), (15, iv (i : Int)), (4, .slice so.A so.n so.c), (5, .slice v5.A v5.n v5.c), (6, .slice v6.A v6.n v6.c), (16, .bool (decide ((i : Int) < (s0.n : Int)))), (17, iv (i : Int)), (18, .pointer (some ⟨bk s0, of_ s0 + i * 1, none⟩)), (19, iv n), (7, iv (i : Int)), (8, iv n), (20, .slice so.A so.n so.c), (21, iv n), (22, iv n), (23, iv (-n)), (24, iv (max n (-n))), (25, iv (idxI o (max n (-n)))), (9, iv (idxI o (max n (-n)))), (26, iv n), (27, .bool true), (28, .bool true), (29, iv n), (30, .bool false), (31, iv (idxI o (max n (-n)))), (32, .bool true), (33, .bool false), (34, .bool false), (39, iv (idxI o (max n (-n)))), (40, .bool (decide ((idxI o (max n (-n))) ≥ 0))), (41, .slice so.A so.n so.c), (42, .slice s118.A s118.n s118.c), (43, iv (idxI o (max n (-n)))), (44, iv (idxI o (max n (-n)))), (45, iv ((idxI o (max n (-n))) + 1)), (46, .slice s121.A s121.n s121.c)] a := ha.keeps [13, 14, 15, 4, 5, 6, 16, 17, 18, 19, 7, 8, 20, 21, 22, 23, 24, 25, 9, 26, 27, 28, 29, 30, 31, 32, 33, 34, 39, 40, 41, 42, 43, 44, 45, 46] _ rfl
   refine jX [(6, 4, .slice s121.A s121.n s121.c)] ha fun a ha => ?_
   refine jK (jQ (wp_seq (wp_seq (jY [0, 1] (jX [(0, 47, iv n), (1, 48, .bool (decide (n > 0)))] ha fun a ha => ?_)))))
   refine jK (jQ ?_)
   refine jG ha rfl (decide_eq_false c68) ?_
   refine wp_skip (jQ (jY [0, 1, 2, 3, 4] (jX [(0, 54, .slice v5.A v5.n v5.c), (1, 55, .slice s121.A s121.n s121.c)] ha fun a ha => ?_)))
   refine jV (xQ 56 [.slice s121.A s121.n s121.c] 36 (fun b => .slice (some ⟨b, 0, none⟩) 1 1) ha hS fun b124 w a hb125 hS ha => ?_)
   refine jV (zW (news := [.slice s121.A s121.n s121.c]) (z := .slice none 0 0) (sz := 1) (bytes := 24) (T2 := 36) (xs' := SX.encS (outs ++ [s121])) 2 0 ha (by decide) (yU (op := (Op.call { callee := (Callee.builtin Builtin.append), args := #[(Operand.tmp 54), (Operand.tmp 56)], argTypes := #[160, 160] })) (d := some 57) (ty := 160)) rfl rfl (by kernel_rfl) (by kernel_rfl) rfl (by decide) hS rfl rfl (by simp) rfl (by rw [encS_length]; simp; omega) (by decide) (encS_snoc _ _) fun s129 w a hS hn130 ha => ?_)
   refine jX [(4, 5, .slice s129.A s129.n s129.c)] ha fun a ha => ?_
   refine jK (in_n (jQ (jY [0, 1] (zK 58 ((i : Int) + 1) ha fun a ha => ?_))))
   refine jX [(1, 15, iv ((i : Int) + 1))] ha fun a ha => ?_
   refine jK (jQ ?_)
   replace hS : Sat w0 w ((rI s121 (o.eraseIdx (o.idxOf (max n (-n))))) :: (rowsI 3 us) :: (SX.row (.slice s129.A s129.n s129.c) 36 1 (SX.encS (outs ++ [s121]))) :: (rI v6 fs) :: []) := hS.pickN 5 [1, 4, 2, 3] (by decide) rfl
   replace hS : Sat w0 w ((rowsI 3 ((s121, (o.eraseIdx (o.idxOf (max n (-n))))) :: us)) :: (SX.row (.slice s129.A s129.n s129.c) 36 1 (SX.encS (outs ++ [s121]))) :: (rI v6 fs) :: []) := Sat.gainRow hS
   replace hS : Sat w0 w ((SX.row (.slice s129.A s129.n s129.c) 36 1 (SX.encS (outs ++ [s121]))) :: (rI v6 fs) :: (rowsI 3 ((s121, (o.eraseIdx (o.idxOf (max n (-n))))) :: us)) :: []) := hS.pickN 3 [1, 2, 0] (by decide) rfl
   have hmem_ : (s121, (o.eraseIdx (o.idxOf (max n (-n))))) ∈ ((s121, (o.eraseIdx (o.idxOf (max n (-n))))) :: us) := List.mem_cons_self
   have hstep : bkStep o n = (o.eraseIdx (o.idxOf (max n (-n)))) := by unfold bkStep; rw [if_neg c68]; rw [List.erase_eq_eraseIdx_of_idxOf rfl]
   have hbad : bkBad o n = false := by unfold bkBad; have hm : o.contains (max n (-n)) = true := List.contains_iff_mem.2 (idxI_mem.1 c117); rw [hm]; simp; omega
   have hdrop : l0.drop i = n :: l0.drop (i + 1) := by rw [List.drop_eq_getElem_cons hlt, hn0]; simp [List.getD, hlt]
   have hol2 : ((o.eraseIdx (o.idxOf (max n (-n))))).length ≤ i + 1 := by rw [← hstep]; exact bkStep_length hol
   exact ⟨_, by omega, i + 1, (o.eraseIdx (o.idxOf (max n (-n)))), s121, ((s121, (o.eraseIdx (o.idxOf (max n (-n))))) :: us), outs ++ [s121], outl ++ [(o.eraseIdx (o.idxOf (max n (-n))))], fs, ⟨s129.A, s129.n, s129.c⟩, ⟨v6.A, v6.n, v6.c⟩, rfl, by omega, hmem_, hol2, by omega, by rw [List.zip_append hou.1]; exact ⟨by simp [hou.1], fun x hx => (List.mem_append.1 hx).elim (fun hx => have hx := hou.2 x hx; List.mem_cons_of_mem _ (hx)) (fun hx => by rw [List.mem_singleton.1 hx]; exact hmem_)⟩, by rw [List.length_append, hon]; rfl, by rw [hdrop, bkOpens, hstep] at hop; rw [List.append_assoc]; exact hop, by rw [hdrop, bkFaults, hstep, hbad] at hfp; simpa using hfp, ha.keeps [13, 14, 15, 4, 5, 6] _ rfl, hS⟩
  replace ha := ha.turn 32 (.bool false) rfl (congrArg Value.bool (decide_eq_false c117))
  refine jX [(7, 33, .bool true), (8, 34, .bool true)] ha fun a ha => ?_
  refine jK (jQ ?_)
  refine qX ha rfl rfl ?_
  refine jY [0, 1, 2, 3, 4] (jX [(0, 35, .slice v6.A v6.n v6.c), (1, 36, iv (i : Int))] ha fun a ha => ?_)
  refine jV (xQ 37 [iv (i : Int)] 3 (fun b => .slice (some ⟨b, 0, none⟩) 1 1) ha hS fun b131 w a hb132 hS ha => ?_)
  refine jV (zW (news := [iv (i : Int)]) (z := iv 0) (sz := 1) (bytes := 8) (T2 := 3) (xs' := SX.encI (fs ++ [(i : Int)])) 2 0 ha (by decide) (yU (op := (Op.call { callee := (Callee.builtin Builtin.append), args := #[(Operand.tmp 35), (Operand.tmp 37)], argTypes := #[36, 36] })) (d := some 38) (ty := 36)) rfl rfl (by kernel_rfl) (by kernel_rfl) rfl (by decide) hS rfl rfl (by simp) rfl (by rw [SX.encI_length]; simp; omega) (by decide) (encI_snoc _ _) fun s136 w a hS hn137 ha => ?_)
  refine jX [(4, 6, .slice s136.A s136.n s136.c)] ha fun a ha => ?_
  refine jK (jQ (wp_seq (wp_seq (jY [0, 1] (jX [(0, 39, iv (idxI o (max n (-n)))), (1, 40, .bool (decide ((idxI o (max n (-n))) ≥ 0)))] ha fun a ha => ?_)))))
  refine jK (jQ ?_)
  refine jG ha rfl (decide_eq_false c117) ?_
  refine wp_skip (jQ (wp_seq (wp_seq (jY [0, 1] (jX [(0, 47, iv n), (1, 48, .bool (decide (n > 0)))] ha fun a ha => ?_)))))
  refine jK (jQ ?_)
  refine jG ha rfl (decide_eq_false c68) ?_
  refine wp_skip (jQ (jY [0, 1, 2, 3, 4] (jX [(0, 54, .slice v5.A v5.n v5.c), (1, 55, .slice so.A so.n so.c)] ha fun a ha => ?_)))
  refine jV (xQ 56 [.slice so.A so.n so.c] 36 (fun b => .slice (some ⟨b, 0, none⟩) 1 1) ha hS fun b138 w a hb139 hS ha => ?_)
  refine jV (zW (news := [.slice so.A so.n so.c]) (z := .slice none 0 0) (sz := 1) (bytes := 24) (T2 := 36) (xs' := SX.encS (outs ++ [so])) 2 0 ha (by decide) (yU (op := (Op.call { callee := (Callee.builtin Builtin.append), args := #[(Operand.tmp 54), (Operand.tmp 56)], argTypes := #[160, 160] })) (d := some 57) (ty := 160)) rfl rfl (by kernel_rfl) (by kernel_rfl) rfl (by decide) hS rfl rfl (by simp) rfl (by rw [encS_length]; simp; omega) (by decide) (encS_snoc _ _) fun s143 w a hS hn144 ha => ?_)
  refine jX [(4, 5, .slice s143.A s143.n s143.c)] ha fun a ha => ?_
  refine jK (in_n (jQ (jY [0, 1] (zK 58 ((i : Int) + 1) ha fun a ha => ?_))))
  refine jX [(1, 15, iv ((i : Int) + 1))] ha fun a ha => ?_
  refine jK (jQ ?_)
  replace hS : Sat w0 w ((SX.row (.slice s143.A s143.n s143.c) 36 1 (SX.encS (outs ++ [so]))) :: (rI s136 (fs ++ [(i : Int)])) :: (rowsI 3 us) :: []) := hS.pickN 5 [2, 3, 4] (by decide) rfl
  have hmem_ : (so, o) ∈ us := hso
  have hstep : bkStep o n = o := by unfold bkStep; rw [if_neg c68]; rw [List.erase_of_not_mem (fun h => c117 (idxI_mem.2 h))]
  have hbad : bkBad o n = true := by unfold bkBad; have hm : o.contains (max n (-n)) = false := Bool.eq_false_iff.2 fun h => c117 (idxI_mem.2 (List.contains_iff_mem.1 h)); rw [hm]; simp; omega
  have hdrop : l0.drop i = n :: l0.drop (i + 1) := by rw [List.drop_eq_getElem_cons hlt, hn0]; simp [List.getD, hlt]
  have hol2 : (o).length ≤ i + 1 := by rw [← hstep]; exact bkStep_length hol
  exact ⟨_, by omega, i + 1, o, so, us, outs ++ [so], outl ++ [o], fs ++ [(i : Int)], ⟨s143.A, s143.n, s143.c⟩, ⟨s136.A, s136.n, s136.c⟩, rfl, by omega, hmem_, hol2, by rw [List.length_append]; simp; omega, by rw [List.zip_append hou.1]; exact ⟨by simp [hou.1], fun x hx => (List.mem_append.1 hx).elim (fun hx => have hx := hou.2 x hx; hx) (fun hx => by rw [List.mem_singleton.1 hx]; exact hmem_)⟩, by rw [List.length_append, hon]; rfl, by rw [hdrop, bkOpens, hstep] at hop; rw [List.append_assoc]; exact hop, by rw [hdrop, bkFaults, hstep, hbad] at hfp; rw [List.append_assoc]; exact hfp, ha.keeps [13, 14, 15, 4, 5, 6] _ rfl, hS⟩
 have hend : l0.drop i = [] := List.drop_eq_nil_of_le (by have := c7; omega)
 refine jG ha rfl (decide_eq_false c7) ?_
 refine wp_exit (yQ (yQ (in_x (jQ (wp_seq (jY [0, 1, 2, 3] (jX [(0, 59, .slice v5.A v5.n v5.c), (1, 60, .slice v6.A v6.n v6.c), (2, 2, .slice v5.A v5.n v5.c), (3, 3, .slice v6.A v6.n v6.c)] ha fun a ha => ?_)))))))
 refine jK (jQ (wp_ret ?_))
 refine end_tmp2 (t := 2) (u := 3) ha (by kernel_rfl) rfl rfl ?_
 have hfs : fs = bkFaults 0 [] l0 := by rw [hend] at hfp; simpa [bkFaults] using hfp
 exact ⟨v5, v6, outs, outl, us, rfl, hou, by rw [hend] at hop; simpa [bkOpens] using hop, hfs ▸ hS⟩
theorem code78 : Try.f78.body = some (Code.seq (cr Try.f78 0 false) (Code.seq (cr Try.f78 1 false) (Code.seq (Code.seq (cr Try.f78 2 false) (Code.block 0 (Code.loop (Code.seq (Code.seq (cr Try.f78 3 false) (Code.cond (Operand.tmp 13) Code.skip (Code.exit 0))) (Code.seq (Code.block 1 (Code.seq (cr Try.f78 5 true) (Code.seq (Code.seq (cr Try.f78 6 false) (Code.cond (Operand.tmp 30) (Code.exit 1) Code.skip)) (Code.seq (Code.seq (cr Try.f78 7 true) (Code.cond (Operand.tmp 39) (cr Try.f78 8 false) Code.skip)) (Code.seq (cr Try.f78 9 false) (Code.seq (cr Try.f78 10 false) (Code.cond (Operand.tmp 51) (cr Try.f78 11 false) Code.skip))))))) (cr Try.f78 4 false)))))) (Code.seq (cr Try.f78 12 false) Code.ret)))) := by kernel_rfl
set_option maxRecDepth 20000 in
set_option maxHeartbeats 1000000 in
theorem read_sat (w0 : World) (s0 : Sl) (l0 : List Int) (hr0 : RdI w0 s0 l0) (he : l0.length ≤ 60) (hb : ∀ x ∈ l0, -32767 ≤ x ∧ x ≤ 32767) :
  Calls Try.prog 78 #[.slice s0.A s0.n s0.c] w0 (Ret fun r w' => ∃ (v4 v5 : Sl), r = .tuple #[v4.v, v5.v] ∧ Sat w0 w' [SX.row v4.v 3 1 (SX.encI (l0.foldl bkStep [])), SX.row v5.v 3 1 (SX.encI (bkFaults 0 [] l0))]) := by
 have hS : Sat w0 w0 [] := Sat.start w0
 have hlen0 := hr0.len
 refine enter (n := 58) Try.func78 code78 (by kernel_rfl) (Nat.le_of_ble_eq_true rfl) (fun a ha => ?_)
 replace ha : Has 58 [(0, .slice s0.A s0.n s0.c)] a := ha
 refine wp_seq (jY [0, 1] (jX [(0, 2, .slice none 0 0), (1, 3, .slice none 0 0)] ha fun a ha => ?_))
 refine jK (jQ (wp_seq (jY [0, 1, 2, 3] (jV (xQ 8 [] 3 (fun b => .slice (some ⟨b, 0, none⟩) 0 0) ha hS fun b1 w a hb2 hS ha => ?_)))))
 refine jV (xQ 9 [] 3 (fun b => .slice (some ⟨b, 0, none⟩) 0 0) ha hS fun b3 w a hb4 hS ha => ?_)
 refine jX [(2, 4, .slice (some ⟨b1, 0, none⟩) 0 0), (3, 5, .slice (some ⟨b3, 0, none⟩) 0 0)] ha fun a ha => ?_
 refine jK (jQ (wp_seq (wp_seq (jY [0] (jX [(0, 6, iv 0)] ha fun a ha => ?_)))))
 refine jK (jQ (wp_block ?_))
 replace hS : Sat w0 w ((SX.blk b1 [] 3) :: (SX.blk b3 [] 3) :: []) := hS.pickN 2 [1, 0] (by decide) rfl
 replace hS : Sat w0 w ((SX.row (.slice (some ⟨b1, 0, none⟩) 0 0) 3 1 (SX.encI [])) :: (SX.blk b3 [] 3) :: []) := hS.shutRow (g := b1) (n := 0) (cap := 0) (T := 3) (sz := 1) (xs := []) (cur := []) 0 rfl rfl (Nat.le_refl _) (by decide) rfl
 replace hS : Sat w0 w ((SX.row (.slice (some ⟨b1, 0, none⟩) 0 0) 3 1 (SX.encI [])) :: (SX.row (.slice (some ⟨b3, 0, none⟩) 0 0) 3 1 (SX.encI [])) :: []) := hS.shutRow (g := b3) (n := 0) (cap := 0) (T := 3) (sz := 1) (xs := []) (cur := []) 1 rfl rfl (Nat.le_refl _) (by decide) rfl
 refine wp_loop_ghost (fun n_ a_ w_ => ∃ (i : Nat) (o : List Int) (fs : List Int) (v4 : Sl) (v5 : Sl), n_ = l0.length - i ∧ (i ≤ l0.length) ∧ (o.length ≤ i) ∧ (fs.length ≤ i) ∧ (∀ x ∈ o, 0 < x) ∧ (o.Nodup) ∧ ((l0.drop i).foldl bkStep o = l0.foldl bkStep []) ∧ (fs ++ bkFaults (i : Int) o (l0.drop i) = bkFaults 0 [] l0) ∧ Has 58 [(0, .slice s0.A s0.n s0.c), (4, .slice v4.A v4.n v4.c), (5, .slice v5.A v5.n v5.c), (6, iv (i : Int))] a_ ∧ Sat w0 w_ ((rI v4 o) :: (rI v5 fs) :: [])) _ ⟨0, [], [], ⟨some ⟨b1, 0, none⟩, 0, 0⟩, ⟨some ⟨b3, 0, none⟩, 0, 0⟩, rfl, Nat.zero_le _, Nat.le_refl _, Nat.le_refl _, (fun x hx => by cases hx), List.nodup_nil, rfl, rfl, ha.keeps [0, 4, 5, 6] _ rfl, hS⟩ ?_
 rintro n_ a w ⟨i, o, fs, v4, v5, rfl, hi, hol, hfl, hpo, hnd, hop, hfp, ha, hS⟩
 refine wp_seq (wp_seq (jY [0, 1, 2, 3] (jX [(0, 10, iv (i : Int)), (1, 11, .slice s0.A s0.n s0.c), (2, 12, iv (s0.n : Int)), (3, 13, .bool (decide ((i : Int) < (s0.n : Int))))] ha fun a ha => ?_)))
 refine jK (jQ ?_)
 by_cases c5 : (i : Int) < (s0.n : Int)
 ·
  have hlt : i < l0.length := by have := c5; omega
  obtain ⟨n, hn0⟩ : ∃ n, n = l0.getD i 0 := ⟨_, rfl⟩
  have hn := hb n (by rw [hn0, List.getD_eq_getElem?_getD, List.getElem?_eq_getElem hlt]; exact List.getElem_mem hlt)
  refine qX ha rfl (decide_eq_true c5) ?_
  refine wp_skip (jQ (wp_seq (wp_block (wp_seq (xU 11 11 (hS.pickN 2 [] (by decide) rfl) hS fun w hS => ?_)))))
  refine jU (k := 9) [(0, 16, .slice s0.A s0.n s0.c), (1, 17, iv (i : Int))] ha (.inr (hS.pickN 2 [] (by decide) rfl)) (jJ (jW (jJ (jJ (jW (jJ (jZ))))))) fun a ha => ?_
  refine zX 2 (.pointer (some ⟨bk s0, of_ s0 + i * 1, none⟩)) ha (zU (el := 3) (sz := 1) (j := i) ha (yG (t := 36) (x := 16) (y := 17) (d := 18)) rfl rfl (by kernel_rfl) (by kernel_rfl) ((hr0.sat hS).at_ hlt).1 (by rw [((hr0.sat hS)).len]; exact hlt)) (.inr (hS.pickN 2 [] (by decide) rfl)) (jJ (jW (jJ (jJ (jW (jJ (jZ))))))) fun a ha => ?_
  refine kZ 3 (iv n) ha (zZ (p := ⟨bk s0, of_ s0 + i * 1, none⟩) ha (kJ (t := 3) (x := 18) (d := 19) (ty := 3)) rfl (by kernel_rfl) (fun w' hw => by rw [Nat.mul_one, hn0]; exact (((hr0.sat hw)).at_ hlt).2)) (hS.pickN 2 [] (by decide) rfl) (jJ (jW (jJ (jJ (jW (jJ (jZ))))))) fun a ha => ?_
  refine jU (k := 5) [(4, 20, .slice s0.A s0.n s0.c), (5, 21, iv (i : Int))] ha (.inr (hS.pickN 2 [] (by decide) rfl)) (jJ (jW (jJ (jJ (jW (jJ (jZ))))))) fun a ha => ?_
  refine zX 6 (.pointer (some ⟨bk s0, of_ s0 + i * 1, none⟩)) ha (zU (el := 3) (sz := 1) (j := i) ha (yG (t := 36) (x := 20) (y := 21) (d := 22)) rfl rfl (by kernel_rfl) (by kernel_rfl) ((hr0.sat hS).at_ hlt).1 (by rw [((hr0.sat hS)).len]; exact hlt)) (.inr (hS.pickN 2 [] (by decide) rfl)) (jJ (jW (jJ (jJ (jW (jJ (jZ))))))) fun a ha => ?_
  refine kZ 7 (iv n) ha (zZ (p := ⟨bk s0, of_ s0 + i * 1, none⟩) ha (kJ (t := 3) (x := 22) (d := 23) (ty := 3)) rfl (by kernel_rfl) (fun w' hw => by rw [Nat.mul_one, hn0]; exact (((hr0.sat hw)).at_ hlt).2)) (hS.pickN 2 [] (by decide) rfl) (jJ (jW (jJ (jJ (jW (jJ (jZ))))))) fun a ha => ?_
  refine zX 8 (iv (-n)) ha ((qG (v := .int .i64 (IntKind.i64.wrap (0 - n))) ha (yU (op := (Op.unOp UnOp.neg 3 (Operand.tmp 23))) (d := some 24) (ty := 3)) (by kernel_rfl) (fun _ => by kernel_rfl)).as (by rw [wrap_i64 (by omega) (by omega)]; exact congrArg _ (by omega))) (.inr (hS.pickN 2 [] (by decide) rfl)) (jJ (jW (jJ (jJ (jW (jJ (jZ))))))) fun a ha => ?_
  refine qZ 9 (qH 25 (vs := [iv n, iv (-n)]) ha (most_sat hS _ _) fun v6 w a hp7 ha => ?_)
  obtain ⟨rfl, hS⟩ := hp7
  refine ⟨.inr (hS.pickN 2 [] (by decide) rfl), ?_⟩
  refine jU (k := 0) [(10, 7, iv (max n (-n)))] ha (.inr (hS.pickN 2 [] (by decide) rfl)) (jJ (jW (jJ (jJ (jW (jJ (jZ))))))) fun a ha => ?_
  refine xW (jQ (wp_seq (wp_seq (jY [0, 1, 2, 3, 4] (jX [(0, 26, .slice s0.A s0.n s0.c), (1, 27, iv (i : Int))] ha fun a ha => ?_)))))
  refine yZ (.pointer (some ⟨bk s0, of_ s0 + i * 1, none⟩)) ha (zU (el := 3) (sz := 1) (j := i) ha (yG (t := 36) (x := 26) (y := 27) (d := 28)) rfl rfl (by kernel_rfl) (by kernel_rfl) ((hr0.sat hS).at_ hlt).1 (by rw [((hr0.sat hS)).len]; exact hlt)) fun a ha => ?_
  refine yZ (iv n) ha (zZ (p := ⟨bk s0, of_ s0 + i * 1, none⟩) ha (kJ (t := 3) (x := 28) (d := 29) (ty := 3)) rfl (by kernel_rfl) (fun w' hw => by rw [hw, Nat.mul_one, hn0]; exact ((hr0.sat hS).at_ hlt).2)) fun a ha => ?_
  refine jX [(4, 30, .bool (decide (n = 0)))] ha fun a ha => ?_
  refine jK (jQ ?_)
  by_cases c8 : n = 0
  ·
   refine qX ha rfl (decide_eq_true c8) ?_
   refine wp_exit (yQ (in_x (jQ (jY [0, 1, 2] (jX [(0, 14, iv (i : Int))] ha fun a ha => ?_)))))
   refine zK 15 ((i : Int) + 1) ha fun a ha => ?_
   refine jX [(2, 6, iv ((i : Int) + 1))] ha fun a ha => ?_
   refine jK (jQ ?_)
   replace hS : Sat w0 w ((rI v4 o) :: (rI v5 fs) :: []) := hS
   have hdrop : l0.drop i = n :: l0.drop (i + 1) := by rw [List.drop_eq_getElem_cons hlt, hn0]; simp [List.getD, hlt]
   have hstep : o = bkStep o n := by rw [c8]; exact (bkStep_zero hpo).symm
   have hbad : bkBad o n = false := by rw [c8]; simp [bkBad]
   exact ⟨_, by omega, i + 1, o, fs, ⟨v4.A, v4.n, v4.c⟩, ⟨v5.A, v5.n, v5.c⟩, rfl, by omega, by rw [hstep]; exact bkStep_length hol, by omega, by rw [hstep]; exact bkStep_pos hpo, by rw [hstep]; exact bkStep_nodup hnd, by rw [hdrop, List.foldl_cons] at hop; rw [hstep]; exact hop, by rw [hdrop, bkFaults, hbad] at hfp; rw [hstep]; simpa using hfp, ha.keeps [0, 4, 5, 6] _ rfl, hS⟩
  refine jG ha rfl (decide_eq_false c8) ?_
  refine wp_skip (jQ (wp_seq (wp_seq (xU 9 9 (hS.pickN 2 [] (by decide) rfl) hS fun w hS => ?_))))
  refine jU (k := 5) [(0, 31, .slice v4.A v4.n v4.c), (1, 32, iv (max n (-n))), (3, 34, .slice s0.A s0.n s0.c), (4, 35, iv (i : Int))] ha (.inr (hS.pickN 2 [] (by decide) rfl)) (jJ (jJ (jW (jJ (jJ (jW (jJ (jZ)))))))) fun a ha => ?_
  refine zX 5 (.pointer (some ⟨bk s0, of_ s0 + i * 1, none⟩)) ha (zU (el := 3) (sz := 1) (j := i) ha (yG (t := 36) (x := 34) (y := 35) (d := 36)) rfl rfl (by kernel_rfl) (by kernel_rfl) ((hr0.sat hS).at_ hlt).1 (by rw [((hr0.sat hS)).len]; exact hlt)) (.inr (hS.pickN 2 [] (by decide) rfl)) (jJ (jJ (jW (jJ (jJ (jW (jJ (jZ)))))))) fun a ha => ?_
  refine kZ 6 (iv n) ha (zZ (p := ⟨bk s0, of_ s0 + i * 1, none⟩) ha (kJ (t := 3) (x := 36) (d := 37) (ty := 3)) rfl (by kernel_rfl) (fun w' hw => by rw [Nat.mul_one, hn0]; exact (((hr0.sat hw)).at_ hlt).2)) (hS.pickN 2 [] (by decide) rfl) (jJ (jJ (jW (jJ (jJ (jW (jJ (jZ)))))))) fun a ha => ?_
  refine jU (k := 2) [(7, 38, .bool (decide (n > 0)))] ha (.inr (hS.pickN 2 [] (by decide) rfl)) (jJ (jJ (jW (jJ (jJ (jW (jJ (jZ)))))))) fun a ha => ?_
  refine qZ 2 (qH 33 (vs := [.slice v4.A v4.n v4.c, iv (max n (-n))]) ha (has_sat hS (hS.rdRow (s := v4) (l := o) 0 rfl) (by omega) _) fun v9 w a hp10 ha => ?_)
  obtain ⟨rfl, hS⟩ := hp10
  refine ⟨.inr (hS.pickN 2 [] (by decide) rfl), ?_⟩
  rcases Bool.eq_false_or_eq_true (o.contains (max n (-n))) with c11 | c11
  ·
   replace ha := ha.turn 33 (.bool true) rfl (congrArg Value.bool c11)
   by_cases c12 : n > 0
   ·
    replace ha := ha.turn 38 (.bool true) rfl (congrArg Value.bool (decide_eq_true c12))
    refine jU (k := 0) [(8, 39, .bool true)] ha (.inr (hS.pickN 2 [] (by decide) rfl)) (jJ (jJ (jW (jJ (jJ (jW (jJ (jZ)))))))) fun a ha => ?_
    refine xW (jQ ?_)
    refine qX ha rfl rfl ?_
    refine jY [0, 1, 2, 3, 4] (jX [(0, 40, .slice v5.A v5.n v5.c), (1, 41, iv (i : Int))] ha fun a ha => ?_)
    refine jV (xQ 42 [iv (i : Int)] 3 (fun b => .slice (some ⟨b, 0, none⟩) 1 1) ha hS fun b13 w a hb14 hS ha => ?_)
    refine jV (zW (news := [iv (i : Int)]) (z := iv 0) (sz := 1) (bytes := 8) (T2 := 3) (xs' := SX.encI (fs ++ [(i : Int)])) 2 0 ha (by decide) (yU (op := (Op.call { callee := (Callee.builtin Builtin.append), args := #[(Operand.tmp 40), (Operand.tmp 42)], argTypes := #[36, 36] })) (d := some 43) (ty := 36)) rfl rfl (by kernel_rfl) (by kernel_rfl) rfl (by decide) hS rfl rfl (by simp) rfl (by rw [SX.encI_length]; simp; omega) (by decide) (encI_snoc _ _) fun s18 w a hS hn19 ha => ?_)
    refine jX [(4, 5, .slice s18.A s18.n s18.c)] ha fun a ha => ?_
    refine jK (jQ (wp_seq (jY [0, 1, 2, 3] (jX [(0, 44, .slice v4.A v4.n v4.c), (1, 45, iv (max n (-n)))] ha fun a ha => ?_))))
    refine jV (qH 46 (vs := [.slice v4.A v4.n v4.c, iv (max n (-n))]) ha (drop_sat hS (hS.rdRow (s := v4) (l := o) 1 rfl) (by omega) _) fun v21 w a hp22 ha => ?_)
    obtain ⟨s20, rfl, hS⟩ := hp22
    refine jX [(3, 4, .slice s20.A s20.n s20.c)] ha fun a ha => ?_
    refine jK (jQ (wp_seq (jY [0, 1, 2, 3, 4] (jX [(0, 47, .slice s0.A s0.n s0.c), (1, 48, iv (i : Int))] ha fun a ha => ?_))))
    refine yZ (.pointer (some ⟨bk s0, of_ s0 + i * 1, none⟩)) ha (zU (el := 3) (sz := 1) (j := i) ha (yG (t := 36) (x := 47) (y := 48) (d := 49)) rfl rfl (by kernel_rfl) (by kernel_rfl) ((hr0.sat hS).at_ hlt).1 (by rw [((hr0.sat hS)).len]; exact hlt)) fun a ha => ?_
    refine yZ (iv n) ha (zZ (p := ⟨bk s0, of_ s0 + i * 1, none⟩) ha (kJ (t := 3) (x := 49) (d := 50) (ty := 3)) rfl (by kernel_rfl) (fun w' hw => by rw [hw, Nat.mul_one, hn0]; exact ((hr0.sat hS).at_ hlt).2)) fun a ha => ?_
    refine jX [(4, 51, .bool (decide (n > 0)))] ha fun a ha => ?_
    refine jK (jQ ?_)
    refine qX ha rfl (decide_eq_true c12) ?_
    refine jY [0, 1, 2, 3, 4] (jX [(0, 52, .slice s20.A s20.n s20.c), (1, 53, iv (max n (-n)))] ha fun a ha => ?_)
    refine jV (xQ 54 [iv (max n (-n))] 3 (fun b => .slice (some ⟨b, 0, none⟩) 1 1) ha hS fun b23 w a hb24 hS ha => ?_)
    refine jV (zW (news := [iv (max n (-n))]) (z := iv 0) (sz := 1) (bytes := 8) (T2 := 3) (xs' := SX.encI ((o.filter (fun y => y != max n (-n))) ++ [(max n (-n))])) 1 0 ha (by decide) (yU (op := (Op.call { callee := (Callee.builtin Builtin.append), args := #[(Operand.tmp 52), (Operand.tmp 54)], argTypes := #[36, 36] })) (d := some 55) (ty := 36)) rfl rfl (by kernel_rfl) (by kernel_rfl) rfl (by decide) hS rfl rfl (by simp) rfl (by rw [SX.encI_length]; have hle_ := List.length_filter_le (fun y => y != max n (-n)) o; simp only [List.length_cons, List.length_nil]; omega) (by decide) (encI_snoc _ _) fun s28 w a hS hn29 ha => ?_)
    refine jX [(4, 4, .slice s28.A s28.n s28.c)] ha fun a ha => ?_
    refine jK (in_n (jQ (jY [0, 1, 2] (jX [(0, 14, iv (i : Int))] ha fun a ha => ?_))))
    refine zK 15 ((i : Int) + 1) ha fun a ha => ?_
    refine jX [(2, 6, iv ((i : Int) + 1))] ha fun a ha => ?_
    refine jK (jQ ?_)
    replace hS : Sat w0 w ((rI s28 ((o.filter (fun y => y != max n (-n))) ++ [(max n (-n))])) :: (rI s18 (fs ++ [(i : Int)])) :: []) := hS.pickN 5 [1, 4] (by decide) rfl
    have hdrop : l0.drop i = n :: l0.drop (i + 1) := by rw [List.drop_eq_getElem_cons hlt, hn0]; simp [List.getD, hlt]
    have hstep : ((o.filter (fun y => y != max n (-n))) ++ [(max n (-n))]) = bkStep o n := bkStep_eq1 c12 hnd
    have hbad : bkBad o n = true := by unfold bkBad; rw [c11]; simp; omega
    exact ⟨_, by omega, i + 1, ((o.filter (fun y => y != max n (-n))) ++ [(max n (-n))]), (fs ++ [(i : Int)]), ⟨s28.A, s28.n, s28.c⟩, ⟨s18.A, s18.n, s18.c⟩, rfl, by omega, by rw [hstep]; exact bkStep_length hol, by rw [List.length_append]; simp; omega, by rw [hstep]; exact bkStep_pos hpo, by rw [hstep]; exact bkStep_nodup hnd, by rw [hdrop, List.foldl_cons] at hop; rw [hstep]; exact hop, by rw [hdrop, bkFaults, hbad] at hfp; rw [hstep]; rw [List.append_assoc]; exact hfp, ha.keeps [0, 4, 5, 6] _ rfl, hS⟩
   replace ha := ha.turn 38 (.bool false) rfl (congrArg Value.bool (decide_eq_false c12))
   refine jU (k := 0) [(8, 39, .bool false)] ha (.inr (hS.pickN 2 [] (by decide) rfl)) (jJ (jJ (jW (jJ (jJ (jW (jJ (jZ)))))))) fun a ha => ?_
   refine xW (jQ ?_)
   refine jG ha rfl rfl ?_
   refine wp_skip (jQ (wp_seq (jY [0, 1, 2, 3] (jX [(0, 44, .slice v4.A v4.n v4.c), (1, 45, iv (max n (-n)))] ha fun a ha => ?_))))
   refine jV (qH 46 (vs := [.slice v4.A v4.n v4.c, iv (max n (-n))]) ha (drop_sat hS (hS.rdRow (s := v4) (l := o) 0 rfl) (by omega) _) fun v31 w a hp32 ha => ?_)
   obtain ⟨s30, rfl, hS⟩ := hp32
   refine jX [(3, 4, .slice s30.A s30.n s30.c)] ha fun a ha => ?_
   refine jK (jQ (wp_seq (jY [0, 1, 2, 3, 4] (jX [(0, 47, .slice s0.A s0.n s0.c), (1, 48, iv (i : Int))] ha fun a ha => ?_))))
   refine yZ (.pointer (some ⟨bk s0, of_ s0 + i * 1, none⟩)) ha (zU (el := 3) (sz := 1) (j := i) ha (yG (t := 36) (x := 47) (y := 48) (d := 49)) rfl rfl (by kernel_rfl) (by kernel_rfl) ((hr0.sat hS).at_ hlt).1 (by rw [((hr0.sat hS)).len]; exact hlt)) fun a ha => ?_
   refine yZ (iv n) ha (zZ (p := ⟨bk s0, of_ s0 + i * 1, none⟩) ha (kJ (t := 3) (x := 49) (d := 50) (ty := 3)) rfl (by kernel_rfl) (fun w' hw => by rw [hw, Nat.mul_one, hn0]; exact ((hr0.sat hS).at_ hlt).2)) fun a ha => ?_
   refine jX [(4, 51, .bool (decide (n > 0)))] ha fun a ha => ?_
   refine jK (jQ ?_)
   refine jG ha rfl (decide_eq_false c12) ?_
   refine wp_skip (in_n (jQ (jY [0, 1, 2] (jX [(0, 14, iv (i : Int))] ha fun a ha => ?_))))
   refine zK 15 ((i : Int) + 1) ha fun a ha => ?_
   refine jX [(2, 6, iv ((i : Int) + 1))] ha fun a ha => ?_
   refine jK (jQ ?_)
   replace hS : Sat w0 w ((rI s30 (o.filter (fun y => y != max n (-n)))) :: (rI v5 fs) :: []) := hS.pickN 3 [0, 2] (by decide) rfl
   have hdrop : l0.drop i = n :: l0.drop (i + 1) := by rw [List.drop_eq_getElem_cons hlt, hn0]; simp [List.getD, hlt]
   have hstep : (o.filter (fun y => y != max n (-n))) = bkStep o n := bkStep_eq2 c12 hnd
   have hbad : bkBad o n = false := by unfold bkBad; rw [c11]; simp; omega
   exact ⟨_, by omega, i + 1, (o.filter (fun y => y != max n (-n))), fs, ⟨s30.A, s30.n, s30.c⟩, ⟨v5.A, v5.n, v5.c⟩, rfl, by omega, by rw [hstep]; exact bkStep_length hol, by omega, by rw [hstep]; exact bkStep_pos hpo, by rw [hstep]; exact bkStep_nodup hnd, by rw [hdrop, List.foldl_cons] at hop; rw [hstep]; exact hop, by rw [hdrop, bkFaults, hbad] at hfp; rw [hstep]; simpa using hfp, ha.keeps [0, 4, 5, 6] _ rfl, hS⟩
  replace ha := ha.turn 33 (.bool false) rfl (congrArg Value.bool c11)
  by_cases c33 : n > 0
  ·
   replace ha := ha.turn 38 (.bool true) rfl (congrArg Value.bool (decide_eq_true c33))
   refine jU (k := 0) [(8, 39, .bool false)] ha (.inr (hS.pickN 2 [] (by decide) rfl)) (jJ (jJ (jW (jJ (jJ (jW (jJ (jZ)))))))) fun a ha => ?_
   refine xW (jQ ?_)
   refine jG ha rfl rfl ?_
   refine wp_skip (jQ (wp_seq (jY [0, 1, 2, 3] (jX [(0, 44, .slice v4.A v4.n v4.c), (1, 45, iv (max n (-n)))] ha fun a ha => ?_))))
   refine jV (qH 46 (vs := [.slice v4.A v4.n v4.c, iv (max n (-n))]) ha (drop_sat hS (hS.rdRow (s := v4) (l := o) 0 rfl) (by omega) _) fun v35 w a hp36 ha => ?_)
   obtain ⟨s34, rfl, hS⟩ := hp36
   refine jX [(3, 4, .slice s34.A s34.n s34.c)] ha fun a ha => ?_
   refine jK (jQ (wp_seq (jY [0, 1, 2, 3, 4] (jX [(0, 47, .slice s0.A s0.n s0.c), (1, 48, iv (i : Int))] ha fun a ha => ?_))))
   refine yZ (.pointer (some ⟨bk s0, of_ s0 + i * 1, none⟩)) ha (zU (el := 3) (sz := 1) (j := i) ha (yG (t := 36) (x := 47) (y := 48) (d := 49)) rfl rfl (by kernel_rfl) (by kernel_rfl) ((hr0.sat hS).at_ hlt).1 (by rw [((hr0.sat hS)).len]; exact hlt)) fun a ha => ?_
   refine yZ (iv n) ha (zZ (p := ⟨bk s0, of_ s0 + i * 1, none⟩) ha (kJ (t := 3) (x := 49) (d := 50) (ty := 3)) rfl (by kernel_rfl) (fun w' hw => by rw [hw, Nat.mul_one, hn0]; exact ((hr0.sat hS).at_ hlt).2)) fun a ha => ?_
   refine jX [(4, 51, .bool (decide (n > 0)))] ha fun a ha => ?_
   refine jK (jQ ?_)
   refine qX ha rfl (decide_eq_true c33) ?_
   refine jY [0, 1, 2, 3, 4] (jX [(0, 52, .slice s34.A s34.n s34.c), (1, 53, iv (max n (-n)))] ha fun a ha => ?_)
   refine jV (xQ 54 [iv (max n (-n))] 3 (fun b => .slice (some ⟨b, 0, none⟩) 1 1) ha hS fun b37 w a hb38 hS ha => ?_)
   refine jV (zW (news := [iv (max n (-n))]) (z := iv 0) (sz := 1) (bytes := 8) (T2 := 3) (xs' := SX.encI ((o.filter (fun y => y != max n (-n))) ++ [(max n (-n))])) 1 0 ha (by decide) (yU (op := (Op.call { callee := (Callee.builtin Builtin.append), args := #[(Operand.tmp 52), (Operand.tmp 54)], argTypes := #[36, 36] })) (d := some 55) (ty := 36)) rfl rfl (by kernel_rfl) (by kernel_rfl) rfl (by decide) hS rfl rfl (by simp) rfl (by rw [SX.encI_length]; have hle_ := List.length_filter_le (fun y => y != max n (-n)) o; simp only [List.length_cons, List.length_nil]; omega) (by decide) (encI_snoc _ _) fun s42 w a hS hn43 ha => ?_)
   refine jX [(4, 4, .slice s42.A s42.n s42.c)] ha fun a ha => ?_
   refine jK (in_n (jQ (jY [0, 1, 2] (jX [(0, 14, iv (i : Int))] ha fun a ha => ?_))))
   refine zK 15 ((i : Int) + 1) ha fun a ha => ?_
   refine jX [(2, 6, iv ((i : Int) + 1))] ha fun a ha => ?_
   refine jK (jQ ?_)
   replace hS : Sat w0 w ((rI s42 ((o.filter (fun y => y != max n (-n))) ++ [(max n (-n))])) :: (rI v5 fs) :: []) := hS.pickN 4 [1, 3] (by decide) rfl
   have hdrop : l0.drop i = n :: l0.drop (i + 1) := by rw [List.drop_eq_getElem_cons hlt, hn0]; simp [List.getD, hlt]
   have hstep : ((o.filter (fun y => y != max n (-n))) ++ [(max n (-n))]) = bkStep o n := bkStep_eq1 c33 hnd
   have hbad : bkBad o n = false := by unfold bkBad; rw [c11]; simp; omega
   exact ⟨_, by omega, i + 1, ((o.filter (fun y => y != max n (-n))) ++ [(max n (-n))]), fs, ⟨s42.A, s42.n, s42.c⟩, ⟨v5.A, v5.n, v5.c⟩, rfl, by omega, by rw [hstep]; exact bkStep_length hol, by omega, by rw [hstep]; exact bkStep_pos hpo, by rw [hstep]; exact bkStep_nodup hnd, by rw [hdrop, List.foldl_cons] at hop; rw [hstep]; exact hop, by rw [hdrop, bkFaults, hbad] at hfp; rw [hstep]; simpa using hfp, ha.keeps [0, 4, 5, 6] _ rfl, hS⟩
  replace ha := ha.turn 38 (.bool false) rfl (congrArg Value.bool (decide_eq_false c33))
  refine jU (k := 0) [(8, 39, .bool true)] ha (.inr (hS.pickN 2 [] (by decide) rfl)) (jJ (jJ (jW (jJ (jJ (jW (jJ (jZ)))))))) fun a ha => ?_
  refine xW (jQ ?_)
  refine qX ha rfl rfl ?_
  refine jY [0, 1, 2, 3, 4] (jX [(0, 40, .slice v5.A v5.n v5.c), (1, 41, iv (i : Int))] ha fun a ha => ?_)
  refine jV (xQ 42 [iv (i : Int)] 3 (fun b => .slice (some ⟨b, 0, none⟩) 1 1) ha hS fun b44 w a hb45 hS ha => ?_)
  refine jV (zW (news := [iv (i : Int)]) (z := iv 0) (sz := 1) (bytes := 8) (T2 := 3) (xs' := SX.encI (fs ++ [(i : Int)])) 2 0 ha (by decide) (yU (op := (Op.call { callee := (Callee.builtin Builtin.append), args := #[(Operand.tmp 40), (Operand.tmp 42)], argTypes := #[36, 36] })) (d := some 43) (ty := 36)) rfl rfl (by kernel_rfl) (by kernel_rfl) rfl (by decide) hS rfl rfl (by simp) rfl (by rw [SX.encI_length]; simp; omega) (by decide) (encI_snoc _ _) fun s49 w a hS hn50 ha => ?_)
  refine jX [(4, 5, .slice s49.A s49.n s49.c)] ha fun a ha => ?_
  refine jK (jQ (wp_seq (jY [0, 1, 2, 3] (jX [(0, 44, .slice v4.A v4.n v4.c), (1, 45, iv (max n (-n)))] ha fun a ha => ?_))))
  refine jV (qH 46 (vs := [.slice v4.A v4.n v4.c, iv (max n (-n))]) ha (drop_sat hS (hS.rdRow (s := v4) (l := o) 1 rfl) (by omega) _) fun v52 w a hp53 ha => ?_)
  obtain ⟨s51, rfl, hS⟩ := hp53
  refine jX [(3, 4, .slice s51.A s51.n s51.c)] ha fun a ha => ?_
  refine jK (jQ (wp_seq (jY [0, 1, 2, 3, 4] (jX [(0, 47, .slice s0.A s0.n s0.c), (1, 48, iv (i : Int))] ha fun a ha => ?_))))
  refine yZ (.pointer (some ⟨bk s0, of_ s0 + i * 1, none⟩)) ha (zU (el := 3) (sz := 1) (j := i) ha (yG (t := 36) (x := 47) (y := 48) (d := 49)) rfl rfl (by kernel_rfl) (by kernel_rfl) ((hr0.sat hS).at_ hlt).1 (by rw [((hr0.sat hS)).len]; exact hlt)) fun a ha => ?_
  refine yZ (iv n) ha (zZ (p := ⟨bk s0, of_ s0 + i * 1, none⟩) ha (kJ (t := 3) (x := 49) (d := 50) (ty := 3)) rfl (by kernel_rfl) (fun w' hw => by rw [hw, Nat.mul_one, hn0]; exact ((hr0.sat hS).at_ hlt).2)) fun a ha => ?_
  refine jX [(4, 51, .bool (decide (n > 0)))] ha fun a ha => ?_
  refine jK (jQ ?_)
  refine jG ha rfl (decide_eq_false c33) ?_
  refine wp_skip (in_n (jQ (jY [0, 1, 2] (jX [(0, 14, iv (i : Int))] ha fun a ha => ?_))))
  refine zK 15 ((i : Int) + 1) ha fun a ha => ?_
  refine jX [(2, 6, iv ((i : Int) + 1))] ha fun a ha => ?_
  refine jK (jQ ?_)
  replace hS : Sat w0 w ((rI s51 (o.filter (fun y => y != max n (-n)))) :: (rI s49 (fs ++ [(i : Int)])) :: []) := hS.pickN 4 [0, 3] (by decide) rfl
  have hdrop : l0.drop i = n :: l0.drop (i + 1) := by rw [List.drop_eq_getElem_cons hlt, hn0]; simp [List.getD, hlt]
  have hstep : (o.filter (fun y => y != max n (-n))) = bkStep o n := bkStep_eq2 c33 hnd
  have hbad : bkBad o n = true := by unfold bkBad; rw [c11]; simp; omega
  exact ⟨_, by omega, i + 1, (o.filter (fun y => y != max n (-n))), (fs ++ [(i : Int)]), ⟨s51.A, s51.n, s51.c⟩, ⟨s49.A, s49.n, s49.c⟩, rfl, by omega, by rw [hstep]; exact bkStep_length hol, by rw [List.length_append]; simp; omega, by rw [hstep]; exact bkStep_pos hpo, by rw [hstep]; exact bkStep_nodup hnd, by rw [hdrop, List.foldl_cons] at hop; rw [hstep]; exact hop, by rw [hdrop, bkFaults, hbad] at hfp; rw [hstep]; rw [List.append_assoc]; exact hfp, ha.keeps [0, 4, 5, 6] _ rfl, hS⟩
 have hend : l0.drop i = [] := List.drop_eq_nil_of_le (by have := c5; omega)
 refine jG ha rfl (decide_eq_false c5) ?_
 refine wp_exit (yQ (yQ (in_x (jQ (wp_seq (jY [0, 1, 2, 3] (jX [(0, 56, .slice v4.A v4.n v4.c), (1, 57, .slice v5.A v5.n v5.c), (2, 2, .slice v4.A v4.n v4.c), (3, 3, .slice v5.A v5.n v5.c)] ha fun a ha => ?_)))))))
 refine jK (jQ (wp_ret ?_))
 have hfs : fs = bkFaults 0 [] l0 := by rw [hend] at hfp; simpa [bkFaults] using hfp
 have ho : o = l0.foldl bkStep [] := by rw [hend] at hop; exact hop
 refine end_tmp2 (t := 2) (u := 3) ha (by kernel_rfl) rfl rfl ?_
 exact ⟨v4, v5, rfl, ho ▸ hfs ▸ hS⟩
end Go.Proofs.Ytggahaddkoifkaa.G
end
section
namespace Go.Proofs.Ytggahaddkoifkaa.G
open Go.RowKit Go.Proofs.Ytggahaddkoifkaa.SX Go.Proofs.YtggahaddkoifkaaW.PrintWords Go.Proofs.YtggahaddkoifkaaW.PrintLast Go.Proofs.YtggahaddkoifkaaW.PrintMore
set_option linter.unusedVariables false
set_option linter.unusedSimpArgs false
def cSl (x : Sl) : List Value := [.slice x.A x.n x.c]
def encSl (l : List Sl) : List Value := l.flatMap cSl
theorem cSl_len (x : Sl) : (cSl x).length = 1 := rfl
theorem encSl_length (l : List Sl) : (encSl l).length = l.length * 1 := flat_length cSl_len l
theorem encS_Sl (l : List Sl) : SX.encS l = encSl l := by
 induction l with
 | nil => rfl
 | cons x l ih => show Value.slice x.A x.n x.c :: SX.encS l = Value.slice x.A x.n x.c :: encSl l; rw [ih]
def tidyB (es : List Int) : Bool := decide ((bkFaults 0 [] es).length = 0) && decide ((bkLeft es).length = 0)
theorem books_at {w0 w : World} {Rs : List Asn} {se : Sl} {es : List Int} (hS : Sat w0 w Rs) (hre : RdI w se es) (he : entriesB es = true) :
  Calls Try.prog 122 #[.slice se.A se.n se.c] w (Ret fun r w' => ∃ (v5 v6 : Sl) (outs : List Sl) (us : List (Sl × List Int)), r = .tuple #[.slice v5.A v5.n v5.c, .slice v6.A v6.n v6.c] ∧ (outs.length = es.length ∧ ∀ n, n + 1 = es.length → ∃ z, outs[n]? = some z ∧ (z, bkLeft es) ∈ us) ∧ Sat w0 w' (SX.row (.slice v5.A v5.n v5.c) 36 1 (encSl outs) :: SX.row (.slice v6.A v6.n v6.c) 3 1 (SX.encI (bkFaults 0 [] es)) :: rowsI 3 us :: Rs)) := by
 obtain ⟨h1, h2⟩ := entries_at he
 refine (books_sat w se es hre h1 h2).mono fun e w' h => ?_
 cases e with
 | returned r =>
  obtain ⟨v5, v6, outs, outl, us, rfl, ⟨h3, h4⟩, rfl, h5⟩ := h
  rw [encS_Sl] at h5
  rw [bkOpens_len] at h3
  refine ⟨v5, v6, outs, us, rfl, ⟨h3, fun n hn => ?_⟩, hS.comp h5⟩
  have hz : n < outs.length := by omega
  exact ⟨outs[n], List.getElem?_eq_getElem hz, h4 _ (List.mem_of_getElem? (i := n) (by rw [List.getElem?_zip_eq_some]; exact ⟨List.getElem?_eq_getElem hz, bkLeft_at hn⟩))⟩
 | _ => exact h.elim
theorem read_at {w0 w : World} {Rs : List Asn} {se : Sl} {es : List Int} (hS : Sat w0 w Rs) (hre : RdI w se es) (he : entriesB es = true) :
  Calls Try.prog 78 #[.slice se.A se.n se.c] w (Ret fun r w' => ∃ (v4 v5 : Sl), r = .tuple #[.slice v4.A v4.n v4.c, .slice v5.A v5.n v5.c] ∧ Sat w0 w' (SX.row (.slice v4.A v4.n v4.c) 3 1 (SX.encI (bkLeft es)) :: SX.row (.slice v5.A v5.n v5.c) 3 1 (SX.encI (bkFaults 0 [] es)) :: Rs)) := by
 obtain ⟨h1, h2⟩ := entries_at he
 refine (read_sat w se es hre h1 h2).mono fun e w' h => ?_
 cases e with
 | returned r => obtain ⟨v4, v5, rfl, h3⟩ := h; exact ⟨v4, v5, rfl, hS.comp h3⟩
 | _ => exact h.elim
theorem trace_len {l : List (List ST)} {f arg fuel : Int} (h : askB l f arg fuel = true) : (rn l f arg fuel).m.trace.length ≤ 1000 := by
 obtain ⟨hP, h1, _, h4⟩ := ask_parts h
 exact runOf_brief hP h1.1 h1.2 h4
def enL (l : List (List ST)) (f arg fuel : Int) : List Int := if askB l f arg fuel = true then saysL (rn l f arg fuel).m.trace else []
def entB (l : List (List ST)) (f arg fuel : Int) : Bool := askB l f arg fuel && entriesB (enL l f arg fuel)
theorem enL_no {l : List (List ST)} {f arg fuel : Int} (h : askB l f arg fuel = false) : enL l f arg fuel = [] := by unfold enL; rw [h]; rfl
theorem enL_yes {l : List (List ST)} {f arg fuel : Int} (h : askB l f arg fuel = true) : enL l f arg fuel = saysL (rn l f arg fuel).m.trace := if_pos h
theorem entB_no {l : List (List ST)} {f arg fuel : Int} (h : askB l f arg fuel = false) : entB l f arg fuel = false := by unfold entB; rw [h]; rfl
theorem entB_yes {l : List (List ST)} {f arg fuel : Int} (h : askB l f arg fuel = true) : entB l f arg fuel = entriesB (saysL (rn l f arg fuel).m.trace) := by unfold entB; rw [h, enL_yes h]; rfl
theorem entB_en {l : List (List ST)} {f arg fuel : Int} (h : entB l f arg fuel = true) : entriesB (enL l f arg fuel) = true := by unfold entB at h; exact (Bool.and_eq_true_iff.1 h).2
theorem code80 : Try.f80.body = some (Code.seq (cr Try.f80 0 false) (Code.seq (cr Try.f80 1 false) (Code.seq (Code.seq (cr Try.f80 2 false) (Code.cond (Operand.tmp 12) (Code.seq (cr Try.f80 3 false) Code.ret) Code.skip)) (Code.seq (cr Try.f80 4 false) Code.ret)))) := by kernel_rfl
set_option maxRecDepth 20000 in
set_option maxHeartbeats 1000000 in
theorem left_sat0 {w0 : World} {se : Sl} {es : List Int} (hre : RdI w0 se es) (he : entriesB es = true) :
  Calls Try.prog 80 #[.slice se.A se.n se.c] w0 (Ret fun r w' => ∃ o : Sl, r = .slice o.A o.n o.c ∧ Sat w0 w' (rI o (bkLeft es) :: [])) := by
 have hS : Sat w0 w0 [] := Sat.start w0
 have hel := hre.len
 have h60 := (entries_at he).1
 refine enter (n := 20) Try.func80 code80 (by kernel_rfl) (Nat.le_of_ble_eq_true rfl) (fun a ha => ?_)
 replace ha : Has 20 [(0, .slice se.A se.n se.c)] a := ha
 refine wp_seq (jY [0] (jX [(0, 2, .slice none 0 0)] ha fun a ha => ?_))
 refine jK (jQ (wp_seq (jY [0, 1, 2, 3, 4, 5, 6] (jX [(0, 6, .slice se.A se.n se.c)] ha fun a ha => ?_))))
 refine jV (qH 7 (vs := [.slice se.A se.n se.c]) ha (books_at hS (hre.sat hS) he) fun v1 w a hp2 ha => ?_)
 obtain ⟨v5, v6, outs, us, rfl, hou, hS⟩ := hp2
 have hv5 := hS.rowL (s := v5) (enc := cSl) 0 cSl_len (by decide) rfl
 have hv6 := (hS.rdRow (s := v6) 1 rfl).len
 refine jX [(2, 5, .tuple #[.slice v5.A v5.n v5.c, .slice v6.A v6.n v6.c]), (3, 8, .slice v5.A v5.n v5.c), (4, 9, .slice v6.A v6.n v6.c), (5, 3, .slice v5.A v5.n v5.c), (6, 4, .slice v6.A v6.n v6.c)] ha fun a ha => ?_
 refine jK (jQ (wp_seq (wp_seq (jY [0, 1, 2] (jX [(0, 10, .slice v5.A v5.n v5.c), (1, 11, iv (v5.n : Int)), (2, 12, .bool (decide ((v5.n : Int) = 0)))] ha fun a ha => ?_)))))
 refine jK (jQ ?_)
 by_cases c3 : (v5.n : Int) = 0
 ·
  refine qX ha rfl (decide_eq_true c3) ?_
  refine wp_seq (jY [0] (jX [(0, 2, .slice none 0 0)] ha fun a ha => ?_))
  refine jK (jQ (wp_ret (xJ (qU ha (by kernel_rfl) (xK (t := 2) ha rfl) ?_))))
  have hE : bkLeft es = [] := bkLeft_nil (by omega)
  rw [hE]
  exact ⟨⟨none, 0, 0⟩, rfl, Sat.nilRow (Sat.rest [_, _, _] hS)⟩
 obtain ⟨n9, hn9⟩ : ∃ n, n + 1 = es.length := ⟨es.length - 1, by omega⟩
 obtain ⟨z9, hz9, hm9⟩ := hou.2 n9 hn9
 refine jG ha rfl (decide_eq_false c3) ?_
 refine wp_skip (jQ (wp_seq (jY [0, 1, 2, 3, 4, 5, 6, 7] (jX [(0, 13, .slice v5.A v5.n v5.c), (1, 14, .slice v5.A v5.n v5.c), (2, 15, iv (v5.n : Int))] ha fun a ha => ?_))))
 refine zK 16 ((v5.n : Int) - 1) ha fun a ha => ?_
 refine yZ (.pointer (some ⟨bk v5, n9 * 1, none⟩)) ha (kQ (s := v5) (el := 36) (sz := 1) (j := n9) ha (yG (t := 160) (x := 13) (y := 16) (d := 17)) rfl rfl (by kernel_rfl) (by kernel_rfl) (hS.rowA (s := v5) 0 rfl (by have := (List.getElem?_eq_some_iff.1 hz9).1; rw [encSl_length]; omega)) ((show (v5.n : Int) - 1 = (n9 : Int) by omega)) (by have h9 := hS.rowL (s := v5) (enc := cSl) 0 cSl_len (by decide) rfl; have := (List.getElem?_eq_some_iff.1 hz9).1; omega)) fun a ha => ?_
 refine yZ (.slice z9.A z9.n z9.c) ha (zZ ha (kJ (t := 36) (x := 17) (d := 18) (ty := 36)) rfl (by kernel_rfl) (fun w' hw => by rw [hw]; exact (hS.rdC (s := v5) 0 rfl).cells _ _ ((flat_get (enc := cSl) (o := 0) cSl_len hz9 (by decide)).trans rfl))) fun a ha => ?_
 refine jV (qH 19 (vs := [.slice z9.A z9.n z9.c]) ha (clone_sat hS (hS.rdRows (s := z9) (l := bkLeft es) 2 rfl hm9) (Nat.le_trans (bkLeft_len _) (Nat.le_trans (entries_at he).1 (by decide)))) fun v4 w a hp5 ha => ?_)
 obtain ⟨oc, rfl, hS⟩ := hp5
 refine jX [(7, 2, .slice oc.A oc.n oc.c)] ha fun a ha => ?_
 refine jK ?_
 replace ha := ha.as [(2, .slice oc.A oc.n oc.c)] rfl
 refine jQ (wp_ret (qU ha (by kernel_rfl) (xK (t := 2) ha rfl) ?_))
 replace hS : Sat w0 w ((rI oc (bkLeft es)) :: []) := hS.pickN 4 [0] (by decide) rfl
 exact ⟨oc, rfl, hS⟩
theorem left_sat {w0 w : World} {Rs : List Asn} {se : Sl} {es : List Int} (hS : Sat w0 w Rs) (hre : RdI w se es) (he : entriesB es = true) :
  Calls Try.prog 80 #[.slice se.A se.n se.c] w (Ret fun r w' => ∃ o : Sl, r = .slice o.A o.n o.c ∧ Sat w0 w' (rI o (bkLeft es) :: Rs)) :=
 (left_sat0 hre he).mono fun e w' h => by
  cases e with
  | returned r => obtain ⟨o, h1, h2⟩ := h; exact ⟨o, h1, hS.comp h2⟩
  | _ => exact h.elim
theorem code85 : Try.f85.body = some (Code.seq (cr Try.f85 0 false) (Code.seq (cr Try.f85 1 false) (Code.seq (cr Try.f85 2 false) Code.ret))) := by kernel_rfl
set_option maxRecDepth 20000 in
set_option maxHeartbeats 1000000 in
theorem tidy_sat0 {w0 : World} {se : Sl} {es : List Int} (hre : RdI w0 se es) (he : entriesB es = true) :
  Calls Try.prog 85 #[.slice se.A se.n se.c] w0 (Ret fun r w' => r = .bool (tidyB es) ∧ Sat w0 w' []) := by
 have hS : Sat w0 w0 [] := Sat.start w0
 have hel := hre.len
 have h60 := (entries_at he).1
 refine enter (n := 19) Try.func85 code85 (by kernel_rfl) (Nat.le_of_ble_eq_true rfl) (fun a ha => ?_)
 replace ha : Has 19 [(0, .slice se.A se.n se.c)] a := ha
 refine wp_seq (jY [0] (jX [(0, 2, .bool false)] ha fun a ha => ?_))
 refine jK (jQ (wp_seq (jY [0, 1, 2, 3, 4, 5, 6] (jX [(0, 6, .slice se.A se.n se.c)] ha fun a ha => ?_))))
 refine jV (qH 7 (vs := [.slice se.A se.n se.c]) ha (books_at hS (hre.sat hS) he) fun v1 w a hp2 ha => ?_)
 obtain ⟨v5, v6, outs, us, rfl, hou, hS⟩ := hp2
 have hv5 := hS.rowL (s := v5) (enc := cSl) 0 cSl_len (by decide) rfl
 have hv6 := (hS.rdRow (s := v6) 1 rfl).len
 refine jX [(2, 5, .tuple #[.slice v5.A v5.n v5.c, .slice v6.A v6.n v6.c]), (3, 8, .slice v5.A v5.n v5.c), (4, 9, .slice v6.A v6.n v6.c), (5, 3, .slice v5.A v5.n v5.c), (6, 4, .slice v6.A v6.n v6.c)] ha fun a ha => ?_
 refine jK (jQ (wp_seq (jY [0, 1, 2, 3, 4, 5, 6, 7, 8, 9] (jX [(0, 10, .slice v6.A v6.n v6.c), (1, 11, iv (v6.n : Int)), (2, 12, .bool (decide ((v6.n : Int) = 0))), (3, 13, .bool (decide ((v6.n : Int) = 0)))] ha fun a ha => ?_))))
 by_cases c3 : (v6.n : Int) = 0
 ·
  replace ha := ha.turn 12 (.bool true) rfl (congrArg Value.bool (decide_eq_true c3))
  replace ha := ha.turn 13 (.bool true) rfl (congrArg Value.bool (decide_eq_true c3))
  refine jX [(4, 14, .slice se.A se.n se.c)] ha fun a ha => ?_
  refine jV (qH 15 (vs := [.slice se.A se.n se.c]) ha (left_sat hS (hre.sat hS) he) fun v4 w a hp5 ha => ?_)
  obtain ⟨ol, rfl, hS⟩ := hp5
  have hol := (hS.rdRow (s := ol) 0 rfl).len
  refine jX [(6, 16, iv (ol.n : Int)), (7, 17, .bool (decide ((ol.n : Int) = 0))), (8, 18, .bool (decide ((ol.n : Int) = 0))), (9, 2, .bool (decide ((ol.n : Int) = 0)))] ha fun a ha => ?_
  refine jK ?_
  replace ha := ha.as [(2, .bool (decide ((ol.n : Int) = 0)))] rfl
  refine jQ (wp_ret (qU ha (by kernel_rfl) (xK (t := 2) ha rfl) ?_))
  have hE : tidyB es = decide ((ol.n : Int) = 0) := by unfold tidyB; rw [← hv6]; rw [← hol, decide_eq_true (show v6.n = 0 by omega), Bool.true_and]; exact decide_eq_decide.2 (by omega)
  rw [hE]
  exact ⟨rfl, Sat.rest [_, _, _, _] hS⟩
 replace ha := ha.turn 12 (.bool false) rfl (congrArg Value.bool (decide_eq_false c3))
 replace ha := ha.turn 13 (.bool false) rfl (congrArg Value.bool (decide_eq_false c3))
 refine jX [(4, 14, undef), (5, 15, undef), (6, 16, undef), (7, 17, undef), (8, 18, .bool false), (9, 2, .bool false)] ha fun a ha => ?_
 refine jK ?_
 replace ha := ha.as [(2, .bool false)] rfl
 refine jQ (wp_ret (qU ha (by kernel_rfl) (xK (t := 2) ha rfl) ?_))
 have hE : tidyB es = false := by unfold tidyB; rw [← hv6]; rw [decide_eq_false (show ¬ v6.n = 0 by omega)]; rfl
 rw [hE]
 exact ⟨rfl, Sat.rest [_, _, _] hS⟩
theorem tidy_sat {w0 w : World} {Rs : List Asn} {se : Sl} {es : List Int} (hS : Sat w0 w Rs) (hre : RdI w se es) (he : entriesB es = true) :
  Calls Try.prog 85 #[.slice se.A se.n se.c] w (Ret fun r w' => r = .bool (tidyB es) ∧ Sat w0 w' Rs) :=
 (tidy_sat0 hre he).mono fun e w' h => by
  cases e with
  | returned r => obtain ⟨h1, h2⟩ := h; exact ⟨h1, hS.comp (Ps := []) h2⟩
  | _ => exact h.elim
theorem code82 : Try.f82.body = some (Code.seq (cr Try.f82 0 false) (Code.seq (cr Try.f82 1 false) (Code.seq (cr Try.f82 2 false) Code.ret))) := by kernel_rfl
set_option maxRecDepth 20000 in
set_option maxHeartbeats 1000000 in
theorem qtidy_sat0 {w0 : World} {se : Sl} {es : List Int} (hre : RdI w0 se es) (he : entriesB es = true) :
  Calls Try.prog 82 #[.slice se.A se.n se.c] w0 (Ret fun r w' => r = .bool (tidyB es) ∧ Sat w0 w' []) := by
 have hS : Sat w0 w0 [] := Sat.start w0
 have hel := hre.len
 have h60 := (entries_at he).1
 refine enter (n := 18) Try.func82 code82 (by kernel_rfl) (Nat.le_of_ble_eq_true rfl) (fun a ha => ?_)
 replace ha : Has 18 [(0, .slice se.A se.n se.c)] a := ha
 refine wp_seq (jY [0] (jX [(0, 2, .bool false)] ha fun a ha => ?_))
 refine jK (jQ (wp_seq (jY [0, 1, 2, 3, 4, 5, 6] (jX [(0, 6, .slice se.A se.n se.c)] ha fun a ha => ?_))))
 refine jV (qH 7 (vs := [.slice se.A se.n se.c]) ha (read_at hS (hre.sat hS) he) fun v1 w a hp2 ha => ?_)
 obtain ⟨v4, v5, rfl, hS⟩ := hp2
 have hv4 := (hS.rdRow (s := v4) 0 rfl).len
 have hv5 := (hS.rdRow (s := v5) 1 rfl).len
 refine jX [(2, 5, .tuple #[.slice v4.A v4.n v4.c, .slice v5.A v5.n v5.c]), (3, 8, .slice v4.A v4.n v4.c), (4, 9, .slice v5.A v5.n v5.c), (5, 3, .slice v4.A v4.n v4.c), (6, 4, .slice v5.A v5.n v5.c)] ha fun a ha => ?_
 refine jK (jQ (wp_seq (jY [0, 1, 2, 3, 4, 5, 6, 7, 8] (jX [(0, 10, .slice v4.A v4.n v4.c), (1, 11, iv (v4.n : Int)), (2, 12, .bool (decide ((v4.n : Int) = 0))), (3, 13, .bool (decide ((v4.n : Int) = 0)))] ha fun a ha => ?_))))
 by_cases c3 : (v4.n : Int) = 0
 ·
  replace ha := ha.turn 12 (.bool true) rfl (congrArg Value.bool (decide_eq_true c3))
  replace ha := ha.turn 13 (.bool true) rfl (congrArg Value.bool (decide_eq_true c3))
  refine jX [(4, 14, .slice v5.A v5.n v5.c), (5, 15, iv (v5.n : Int)), (6, 16, .bool (decide ((v5.n : Int) = 0))), (7, 17, .bool (decide ((v5.n : Int) = 0))), (8, 2, .bool (decide ((v5.n : Int) = 0)))] ha fun a ha => ?_
  refine jK ?_
  replace ha := ha.as [(2, .bool (decide ((v5.n : Int) = 0)))] rfl
  refine jQ (wp_ret (qU ha (by kernel_rfl) (xK (t := 2) ha rfl) ?_))
  have hE : tidyB es = decide ((v5.n : Int) = 0) := by unfold tidyB; rw [← hv5, ← hv4, Bool.and_comm]; rw [decide_eq_true (show v4.n = 0 by omega), Bool.true_and]; exact decide_eq_decide.2 (by omega)
  rw [hE]
  exact ⟨rfl, Sat.rest [_, _] hS⟩
 replace ha := ha.turn 12 (.bool false) rfl (congrArg Value.bool (decide_eq_false c3))
 replace ha := ha.turn 13 (.bool false) rfl (congrArg Value.bool (decide_eq_false c3))
 refine jX [(4, 14, undef), (5, 15, undef), (6, 16, undef), (7, 17, .bool false), (8, 2, .bool false)] ha fun a ha => ?_
 refine jK ?_
 replace ha := ha.as [(2, .bool false)] rfl
 refine jQ (wp_ret (qU ha (by kernel_rfl) (xK (t := 2) ha rfl) ?_))
 have hE : tidyB es = false := by unfold tidyB; rw [← hv5, ← hv4, Bool.and_comm]; rw [decide_eq_false (show ¬ v4.n = 0 by omega)]; rfl
 rw [hE]
 exact ⟨rfl, Sat.rest [_, _] hS⟩
theorem qtidy_sat {w0 w : World} {Rs : List Asn} {se : Sl} {es : List Int} (hS : Sat w0 w Rs) (hre : RdI w se es) (he : entriesB es = true) :
  Calls Try.prog 82 #[.slice se.A se.n se.c] w (Ret fun r w' => r = .bool (tidyB es) ∧ Sat w0 w' Rs) :=
 (qtidy_sat0 hre he).mono fun e w' h => by
  cases e with
  | returned r => obtain ⟨h1, h2⟩ := h; exact ⟨h1, hS.comp (Ps := []) h2⟩
  | _ => exact h.elim
theorem code120 : Try.f120.body = some (Code.seq (cr Try.f120 0 false) (Code.seq (cr Try.f120 1 false) (Code.seq (Code.seq (cr Try.f120 2 false) (Code.cond (Operand.tmp 24) (Code.seq (cr Try.f120 3 false) Code.ret) Code.skip)) (Code.seq (cr Try.f120 4 false) (Code.seq (Code.seq (cr Try.f120 5 false) (Code.block 0 (Code.loop (Code.seq (cr Try.f120 6 false) (Code.seq (Code.cond (Operand.tmp 32) Code.skip (Code.exit 0)) (Code.seq (Code.block 1 (Code.seq (cr Try.f120 7 false) (Code.seq (cr Try.f120 8 false) (Code.cond (Operand.tmp 37) (cr Try.f120 9 false) Code.skip)))) (cr Try.f120 10 false))))))) (Code.seq (cr Try.f120 11 false) Code.ret)))))) := by kernel_rfl
set_option maxRecDepth 20000 in
set_option maxHeartbeats 1000000 in
theorem sn_sat0 {w0 : World} {s : Sl} {l : List (List ST)} {f arg fuel : Int} (hr : RdP w0 s l) (hask : askB l f arg fuel = true) :
  Calls Try.prog 120 #[.agg #[.slice s.A s.n s.c], iv f, iv arg, iv fuel] w0 (Ret fun r w' => ∃ o : Sl, r = .tuple #[.slice o.A o.n o.c, .bool true] ∧ Sat w0 w' (rI o (saysL (rn l f arg fuel).m.trace) :: [])) := by
 have hS : Sat w0 w0 [] := Sat.start w0
 refine enter (n := 45) Try.func120 code120 (by kernel_rfl) (Nat.le_of_ble_eq_true rfl) (fun a ha => ?_)
 replace ha : Has 45 [(0, .agg #[.slice s.A s.n s.c]), (1, iv f), (2, iv arg), (3, iv fuel)] a := ha
 refine wp_seq (jY [0, 1, 2] (jV (xQ 4 [.slice s.A s.n s.c] 30 (ptr · 0) ha hS fun b1 w a hb2 hS ha => ?_)))
 refine jX [(1, 8, .slice none 0 0), (2, 9, .bool false)] ha fun a ha => ?_
 refine jK (jQ (wp_seq (jY [0, 1, 2, 3, 4, 5, 6, 7, 8, 9] (zG 16 ha (hS.blk 0 rfl) fun a ha => ?_))))
 refine jX [(1, 17, iv f), (2, 18, iv arg), (3, 19, iv fuel)] ha fun a ha => ?_
 refine jV (qH 20 (vs := [.agg #[.slice s.A s.n s.c], iv f, iv arg, iv fuel]) ha (ran_sat hS (hr.sat hS) hask) fun v3 w a hp4 ha => ?_)
 obtain ⟨bm1, rfl, hS⟩ := hp4
 obtain ⟨ms1, hms1, hS⟩ := Sat.openMO hS
 replace hS : Sat w0 w ((MO bm1 s fuel ((rn l f arg fuel).m.made) ((rn l f arg fuel).m.shared) ((rn l f arg fuel).m.depth) ((rn l f arg fuel).m.deepest) ms1.tr ms1.ow ms1.ca ms1.pa ms1.re ms1.bp ((rn l f arg fuel).k) ((rn l f arg fuel).v)) :: (rE ms1.tr ((rn l f arg fuel).m.trace)) :: (rI ms1.ow ((rn l f arg fuel).m.owners)) :: (rC ms1.ca ((rn l f arg fuel).m.calls)) :: (rP ms1.pa ms1.us) :: (qQ (xY ms1.us)) :: (rV ms1.re ((rn l f arg fuel).m.recs)) :: (xZ ms1.bp (rn l f arg fuel).m.places) :: (SX.blk b1 [.slice s.A s.n s.c] 30) :: []) := hS
 refine jX [(5, 15, .tuple #[ptr bm1 0, .bool true]), (6, 21, ptr bm1 0), (7, 22, .bool true), (8, 10, ptr bm1 0), (9, 11, .bool true)] ha fun a ha => ?_
 refine jK (jQ (wp_seq (wp_seq (jY [0, 1] (jX [(0, 23, .bool true), (1, 24, .bool false)] ha fun a ha => ?_)))))
 refine jK (jQ ?_)
 refine jG ha rfl rfl ?_
 refine wp_skip (jQ (wp_seq (jY [0, 1] (jV (xQ 25 [] 3 (fun b => .slice (some ⟨b, 0, none⟩) 0 0) ha hS fun b5 w a hb6 hS ha => ?_)))))
 refine jX [(1, 12, .slice (some ⟨b5, 0, none⟩) 0 0)] ha fun a ha => ?_
 refine jK (jQ (wp_seq (wp_seq (jY [0, 1, 2, 3, 4, 5] (jX [(0, 26, ptr bm1 0), (1, 27, ptr bm1 0), (2, 28, ptr bm1 6)] ha fun a ha => ?_)))))
 refine qK (d := 29) (b := bm1) (j := 6) ha (hS.blk 1 rfl) rfl fun a ha => ?_
 refine jX [(4, 30, iv (ms1.tr.n : Int)), (5, 31, iv 0)] ha fun a ha => ?_
 refine jK ?_
 replace ha := ha.as [(8, .slice none 0 0), (9, .bool false), (12, .slice (some ⟨b5, 0, none⟩) 0 0), (29, .slice ms1.tr.A ms1.tr.n ms1.tr.c), (30, iv (ms1.tr.n : Int)), (31, iv 0)] rfl
 refine jQ (wp_block ?_)
 replace hS := hS.blk0 1 0 rfl
 replace hS : Sat w0 w ((rE ms1.tr ((rn l f arg fuel).m.trace)) :: (rI (⟨some ⟨b5, 0, none⟩, 0, 0⟩ : Sl) []) :: []) := hS.pickN 10 [2, 0] (by decide) rfl
 have htn : ms1.tr.n = (rn l f arg fuel).m.trace.length := hS.rowL (s := ms1.tr) (enc := cellsE) 0 kV (by decide) rfl
 have htl := trace_len hask
 refine wp_loop_ghost (fun n_ a_ w_ => ∃ (i : Nat) (o : Sl), n_ = (rn l f arg fuel).m.trace.length - i ∧ (i ≤ (rn l f arg fuel).m.trace.length) ∧ Has 45 [(29, .slice ms1.tr.A ms1.tr.n ms1.tr.c), (30, iv (ms1.tr.n : Int)), (12, .slice o.A o.n o.c), (31, iv (i : Int))] a_ ∧ Sat w0 w_ ((rE ms1.tr ((rn l f arg fuel).m.trace)) :: (rI o (saysN (rn l f arg fuel).m.trace i)) :: [])) _ ⟨0, ⟨some ⟨b5, 0, none⟩, 0, 0⟩, rfl, Nat.zero_le _, ha.keeps [29, 30, 12, 31] _ rfl, hS⟩ ?_
 rintro n_ a w ⟨i, o, rfl, hi, ha, hS⟩
 refine wp_seq (jY [0] (jX [(0, 32, .bool (decide ((i : Int) < (ms1.tr.n : Int))))] ha fun a ha => ?_))
 refine jK (jQ (wp_seq ?_))
 by_cases c7 : (i : Int) < (ms1.tr.n : Int)
 ·
  obtain ⟨z, hz⟩ : ∃ z, (rn l f arg fuel).m.trace[i]? = some z := ⟨_, List.getElem?_eq_getElem (by omega)⟩
  refine qX ha rfl (decide_eq_true c7) ?_
  refine wp_skip (jQ (wp_seq (wp_block (wp_seq (jY [0, 1, 2, 3] (yZ (.pointer (some ⟨bk ms1.tr, i * 3, none⟩)) ha (kQ (s := ms1.tr) (el := 156) (sz := 3) (j := i) ha (yG (t := 60) (x := 29) (y := 31) (d := 33)) rfl rfl (by kernel_rfl) (by kernel_rfl) (hS.rowA (s := ms1.tr) 0 rfl (by have := (List.getElem?_eq_some_iff.1 hz).1; rw [encE_length]; omega)) (rfl) (by have h9 := hS.rowL (s := ms1.tr) (enc := cellsE) 0 kV (by decide) rfl; have := (List.getElem?_eq_some_iff.1 hz).1; omega)) fun a ha => ?_))))))
  refine yZ (.agg #[iv z.1, iv z.2.1, iv z.2.2]) ha (v_loadL ha (kJ (t := 156) (x := 33) (d := 34) (ty := 156)) rfl (fun w' hw => by rw [hw]; exact run_loadVar_agg (vs := [iv z.1, iv z.2.1, iv z.2.2]) (by kernel_rfl) (fun i u hu => by match i, hu with | 0, hu => rw [add0]; rw [← Option.some.inj hu]; exact ((hS.rdC (s := ms1.tr) 0 rfl).cells _ _ ((flat_get (enc := cellsE) (o := 0) kV hz (by decide)).trans rfl)) | 1, hu => rw [add0]; rw [← Option.some.inj hu]; exact ((hS.rdC (s := ms1.tr) 0 rfl).cells _ _ ((flat_get (enc := cellsE) (o := 1) kV hz (by decide)).trans rfl)) | 2, hu => rw [add0]; rw [← Option.some.inj hu]; exact ((hS.rdC (s := ms1.tr) 0 rfl).cells _ _ ((flat_get (enc := cellsE) (o := 2) kV hz (by decide)).trans rfl)) | n + 3, hu => simp at hu))) fun a ha => ?_
  refine jV (xQ 14 [iv 0, iv 0, iv 0] 156 (ptr · 0) ha hS fun b8 w a hb9 hS ha => ?_)
  refine jV (jH 0 ha (xG (t := 156) (x := 14) (y := 34)) rfl rfl rfl (by kernel_rfl) hS rfl (Nat.le_of_ble_eq_true rfl) rfl fun w a hS ha => ?_)
  refine jK (jQ (wp_seq (jY [0, 1, 2] (jX [(0, 35, ptr b8 0)] ha fun a ha => ?_))))
  refine qK (d := 36) (b := b8) (j := 0) ha (hS.blk 0 rfl) rfl fun a ha => ?_
  refine jX [(2, 37, .bool (decide (z.1 = 4)))] ha fun a ha => ?_
  refine jK (jQ ?_)
  by_cases c10 : z.1 = 4
  ·
   refine qX ha rfl (decide_eq_true c10) ?_
   refine jY [0, 1, 2, 3, 4, 5] (jX [(0, 38, .slice o.A o.n o.c), (1, 39, ptr b8 2)] ha fun a ha => ?_)
   refine qK (d := 40) (b := b8) (j := 2) ha (hS.blk 0 rfl) rfl fun a ha => ?_
   refine jV (xQ 41 [iv z.2.2] 3 (fun b => .slice (some ⟨b, 0, none⟩) 1 1) ha hS fun b11 w a hb12 hS ha => ?_)
   refine jV (zW (news := [iv z.2.2]) (z := iv 0) (sz := 1) (bytes := 8) (T2 := 3) (xs' := SX.encI ((saysN (rn l f arg fuel).m.trace i) ++ [z.2.2])) 3 0 ha (by decide) (yU (op := (Op.call { callee := (Callee.builtin Builtin.append), args := #[(Operand.tmp 38), (Operand.tmp 41)], argTypes := #[36, 36] })) (d := some 42) (ty := 36)) rfl rfl (by kernel_rfl) (by kernel_rfl) rfl (by decide) hS rfl rfl (by simp) rfl (by rw [encI_length]; have h8 := saysN_len (rn l f arg fuel).m.trace i; simp only [List.length_cons, List.length_nil]; omega) (by decide) (encI_snoc _ _) fun s16 w a hS hn17 ha => ?_)
   refine jX [(5, 12, .slice s16.A s16.n s16.c)] ha fun a ha => ?_
   refine jK (in_n (jQ (jY [0, 1] (zK 43 ((i : Int) + 1) ha fun a ha => ?_))))
   refine jX [(1, 31, iv ((i : Int) + 1))] ha fun a ha => ?_
   refine jK (jQ ?_)
   replace hS : Sat w0 w ((rE ms1.tr ((rn l f arg fuel).m.trace)) :: (rI s16 ((saysN (rn l f arg fuel).m.trace i) ++ [z.2.2])) :: []) := hS.pickN 4 [2, 3] (by decide) rfl
   replace hS : Sat w0 w ((rE ms1.tr ((rn l f arg fuel).m.trace)) :: (rI s16 (saysN (rn l f arg fuel).m.trace (i + 1))) :: []) := by rw [saysN_yes hz c10]; exact hS
   exact ⟨_, by omega, i + 1, s16, rfl, by omega, ha.keeps [29, 30, 12, 31] _ rfl, hS⟩
  refine jG ha rfl (decide_eq_false c10) ?_
  refine wp_skip (in_n (jQ (jY [0, 1] (zK 43 ((i : Int) + 1) ha fun a ha => ?_))))
  refine jX [(1, 31, iv ((i : Int) + 1))] ha fun a ha => ?_
  refine jK (jQ ?_)
  replace hS : Sat w0 w ((rE ms1.tr ((rn l f arg fuel).m.trace)) :: (rI o (saysN (rn l f arg fuel).m.trace i)) :: []) := hS.pickN 3 [1, 2] (by decide) rfl
  replace hS : Sat w0 w ((rE ms1.tr ((rn l f arg fuel).m.trace)) :: (rI o (saysN (rn l f arg fuel).m.trace (i + 1))) :: []) := by rw [saysN_no hz c10]; exact hS
  exact ⟨_, by omega, i + 1, o, rfl, by omega, ha.keeps [29, 30, 12, 31] _ rfl, hS⟩
 refine jG ha rfl (decide_eq_false c7) ?_
 refine wp_exit (yQ (yQ (in_x (jQ (wp_seq (jY [0, 1, 2] (jX [(0, 44, .slice o.A o.n o.c), (1, 8, .slice o.A o.n o.c), (2, 9, .bool true)] ha fun a ha => ?_)))))))
 refine jK (jQ (wp_ret (yW ha (by kernel_rfl) (xK (t := 8) ha rfl) (xK (t := 9) ha rfl) ?_)))
 have hE : saysL (rn l f arg fuel).m.trace = saysN (rn l f arg fuel).m.trace i := by unfold saysL; rw [show (rn l f arg fuel).m.trace.length = i by omega]
 rw [hE]
 replace hS : Sat w0 w ((rI o (saysN (rn l f arg fuel).m.trace i)) :: []) := hS.pickN 2 [1] (by decide) rfl
 exact ⟨o, rfl, hS⟩
theorem sn_sat {w0 w : World} {Rs : List Asn} {s : Sl} {l : List (List ST)} {f arg fuel : Int} (hS : Sat w0 w Rs) (hr : RdP w s l) (hask : askB l f arg fuel = true) :
  Calls Try.prog 120 #[.agg #[.slice s.A s.n s.c], iv f, iv arg, iv fuel] w (Ret fun r w' => ∃ o : Sl, r = .tuple #[.slice o.A o.n o.c, .bool true] ∧ Sat w0 w' (rI o (saysL (rn l f arg fuel).m.trace) :: Rs)) :=
 (sn_sat0 hr hask).mono fun e w' h => by
  cases e with
  | returned r => obtain ⟨o, h1, h2⟩ := h; exact ⟨o, h1, hS.comp h2⟩
  | _ => exact h.elim
set_option maxRecDepth 20000 in
set_option maxHeartbeats 1000000 in
theorem sn_no_sat0 {w0 : World} {s : Sl} {l : List (List ST)} {f arg fuel : Int} (hr : RdP w0 s l) (hask : askB l f arg fuel = false) :
  Calls Try.prog 120 #[.agg #[.slice s.A s.n s.c], iv f, iv arg, iv fuel] w0 (Ret fun r w' => r = .tuple #[.slice none 0 0, .bool false] ∧ Sat w0 w' []) := by
 have hS : Sat w0 w0 [] := Sat.start w0
 refine enter (n := 45) Try.func120 code120 (by kernel_rfl) (Nat.le_of_ble_eq_true rfl) (fun a ha => ?_)
 replace ha : Has 45 [(0, .agg #[.slice s.A s.n s.c]), (1, iv f), (2, iv arg), (3, iv fuel)] a := ha
 refine wp_seq (jY [0, 1, 2] (jV (xQ 4 [.slice s.A s.n s.c] 30 (ptr · 0) ha hS fun b1 w a hb2 hS ha => ?_)))
 refine jX [(1, 8, .slice none 0 0), (2, 9, .bool false)] ha fun a ha => ?_
 refine jK (jQ (wp_seq (jY [0, 1, 2, 3, 4, 5, 6, 7, 8, 9] (zG 16 ha (hS.blk 0 rfl) fun a ha => ?_))))
 refine jX [(1, 17, iv f), (2, 18, iv arg), (3, 19, iv fuel)] ha fun a ha => ?_
 refine jV (qH 20 (vs := [.agg #[.slice s.A s.n s.c], iv f, iv arg, iv fuel]) ha (ran_no hS (hr.sat hS) hask) fun v3 w a hp4 ha => ?_)
 obtain ⟨rfl, hS⟩ := hp4
 refine jX [(5, 15, .tuple #[.pointer none, .bool false]), (6, 21, .pointer none), (7, 22, .bool false), (8, 10, .pointer none), (9, 11, .bool false)] ha fun a ha => ?_
 refine jK (jQ (wp_seq (wp_seq (jY [0, 1] (jX [(0, 23, .bool false), (1, 24, .bool true)] ha fun a ha => ?_)))))
 refine jK (jQ ?_)
 refine qX ha rfl rfl ?_
 refine wp_seq (jY [0, 1] (jX [(0, 8, .slice none 0 0), (1, 9, .bool false)] ha fun a ha => ?_))
 refine jK (jQ (wp_ret (xJ (yW ha (by kernel_rfl) (xK (t := 8) ha rfl) (xK (t := 9) ha rfl) ?_))))
 exact ⟨rfl, Sat.rest [_] hS⟩
theorem sn_no {w0 w : World} {Rs : List Asn} {s : Sl} {l : List (List ST)} {f arg fuel : Int} (hS : Sat w0 w Rs) (hr : RdP w s l) (hask : askB l f arg fuel = false) :
  Calls Try.prog 120 #[.agg #[.slice s.A s.n s.c], iv f, iv arg, iv fuel] w (Ret fun r w' => r = .tuple #[.slice none 0 0, .bool false] ∧ Sat w0 w' Rs) :=
 (sn_no_sat0 hr hask).mono fun e w' h => by
  cases e with
  | returned r => obtain ⟨h1, h2⟩ := h; exact ⟨h1, hS.comp (Ps := []) h2⟩
  | _ => exact h.elim
theorem code79 : Try.f79.body = some (Code.seq (cr Try.f79 0 false) (Code.seq (cr Try.f79 1 false) (Code.seq (cr Try.f79 2 false) Code.ret))) := by kernel_rfl
set_option maxRecDepth 20000 in
set_option maxHeartbeats 1000000 in
theorem ent_sat0 {w0 : World} {s : Sl} {l : List (List ST)} {f arg fuel : Int} (hr : RdP w0 s l) (hf : Fits l) :
  Calls Try.prog 79 #[.agg #[.slice s.A s.n s.c], iv f, iv arg, iv fuel] w0 (Ret fun r w' => ∃ o : Sl, r = .tuple #[.slice o.A o.n o.c, .bool (entB l f arg fuel)] ∧ Sat w0 w' (rI o (enL l f arg fuel) :: [])) := by
 have hS : Sat w0 w0 [] := Sat.start w0
 refine enter (n := 26) Try.func79 code79 (by kernel_rfl) (Nat.le_of_ble_eq_true rfl) (fun a ha => ?_)
 replace ha : Has 26 [(0, .agg #[.slice s.A s.n s.c]), (1, iv f), (2, iv arg), (3, iv fuel)] a := ha
 refine wp_seq (jY [0, 1, 2] (jV (xQ 4 [.slice s.A s.n s.c] 30 (ptr · 0) ha hS fun b1 w a hb2 hS ha => ?_)))
 refine jX [(1, 8, .slice none 0 0), (2, 9, .bool false)] ha fun a ha => ?_
 refine jK (jQ (wp_seq (jY [0, 1, 2, 3, 4, 5, 6, 7, 8, 9] (zG 13 ha (hS.blk 0 rfl) fun a ha => ?_))))
 refine jX [(1, 14, iv f), (2, 15, iv arg), (3, 16, iv fuel)] ha fun a ha => ?_
 rcases Bool.eq_false_or_eq_true (askB l f arg fuel) with c3 | c3
 ·
  refine jV (qH 17 (vs := [.agg #[.slice s.A s.n s.c], iv f, iv arg, iv fuel]) ha (sn_sat hS (hr.sat hS) c3) fun v4 w a hp5 ha => ?_)
  obtain ⟨on, rfl, hS⟩ := hp5
  refine jX [(5, 12, .tuple #[.slice on.A on.n on.c, .bool true]), (6, 18, .slice on.A on.n on.c), (7, 19, .bool true), (8, 10, .slice on.A on.n on.c), (9, 11, .bool true)] ha fun a ha => ?_
  refine jK (jQ (wp_seq (jY [0, 1, 2, 3, 4, 5, 6, 7] (jX [(0, 20, .slice on.A on.n on.c), (1, 21, .bool true), (2, 22, .bool true), (3, 23, .slice on.A on.n on.c)] ha fun a ha => ?_))))
  refine jV (qH 24 (vs := [.slice on.A on.n on.c]) ha (arE_sat hS (hS.rdRow (s := on) 0 rfl)) fun v6 w a hp7 ha => ?_)
  obtain ⟨rfl, hS⟩ := hp7
  refine jX [(5, 25, .bool (entriesB (saysL (rn l f arg fuel).m.trace))), (6, 8, .slice on.A on.n on.c), (7, 9, .bool (entriesB (saysL (rn l f arg fuel).m.trace)))] ha fun a ha => ?_
  refine jK ?_
  replace ha := ha.as [(8, .slice on.A on.n on.c), (9, .bool (entriesB (saysL (rn l f arg fuel).m.trace)))] rfl
  refine jQ (wp_ret (yW ha (by kernel_rfl) (xK (t := 8) ha rfl) (xK (t := 9) ha rfl) ?_))
  rw [entB_yes c3, enL_yes c3]
  replace hS : Sat w0 w ((rI on (saysL (rn l f arg fuel).m.trace)) :: []) := hS.pickN 2 [0] (by decide) rfl
  exact ⟨on, rfl, hS⟩
 refine jV (qH 17 (vs := [.agg #[.slice s.A s.n s.c], iv f, iv arg, iv fuel]) ha (sn_no hS (hr.sat hS) c3) fun v8 w a hp9 ha => ?_)
 obtain ⟨rfl, hS⟩ := hp9
 refine jX [(5, 12, .tuple #[.slice none 0 0, .bool false]), (6, 18, .slice none 0 0), (7, 19, .bool false), (8, 10, .slice none 0 0), (9, 11, .bool false)] ha fun a ha => ?_
 refine jK (jQ (wp_seq (jY [0, 1, 2, 3, 4, 5, 6, 7] (jX [(0, 20, .slice none 0 0), (1, 21, .bool false), (2, 22, .bool false), (3, 23, undef), (4, 24, undef), (5, 25, .bool false), (6, 8, .slice none 0 0), (7, 9, .bool false)] ha fun a ha => ?_))))
 refine jK ?_
 replace ha := ha.as [(8, .slice none 0 0), (9, .bool false)] rfl
 refine jQ (wp_ret (yW ha (by kernel_rfl) (xK (t := 8) ha rfl) (xK (t := 9) ha rfl) ?_))
 rw [entB_no c3, enL_no c3]
 exact ⟨⟨none, 0, 0⟩, rfl, Sat.nilRow (Sat.rest [_] hS)⟩
theorem ent_sat {w0 w : World} {Rs : List Asn} {s : Sl} {l : List (List ST)} {f arg fuel : Int} (hS : Sat w0 w Rs) (hr : RdP w s l) (hf : Fits l) :
  Calls Try.prog 79 #[.agg #[.slice s.A s.n s.c], iv f, iv arg, iv fuel] w (Ret fun r w' => ∃ o : Sl, r = .tuple #[.slice o.A o.n o.c, .bool (entB l f arg fuel)] ∧ Sat w0 w' (rI o (enL l f arg fuel) :: Rs)) :=
 (ent_sat0 hr hf).mono fun e w' h => by
  cases e with
  | returned r => obtain ⟨o, h1, h2⟩ := h; exact ⟨o, h1, hS.comp h2⟩
  | _ => exact h.elim
theorem code77 : Try.f77.body = some (Code.seq (cr Try.f77 0 false) (Code.seq (Code.seq (cr Try.f77 1 false) (Code.cond (Operand.tmp 16) (Code.seq (cr Try.f77 2 false) Code.ret) Code.skip)) (Code.seq (cr Try.f77 3 false) (Code.seq (cr Try.f77 4 false) Code.ret)))) := by kernel_rfl
set_option maxRecDepth 20000 in
set_option maxHeartbeats 1000000 in
theorem said7_sat0 {w0 : World} {s : Sl} {l : List (List ST)} {f arg fuel : Int} (hr : RdP w0 s l) (hf : Fits l) :
  Calls Try.prog 77 #[.agg #[.slice s.A s.n s.c], iv f, iv arg, iv fuel] w0 (Ret fun r w' => ∃ o : Sl, r = .tuple #[.slice o.A o.n o.c, .bool (entB l f arg fuel)] ∧ Sat w0 w' (rI o (enL l f arg fuel) :: [])) := by
 have hS : Sat w0 w0 [] := Sat.start w0
 refine enter (n := 27) Try.func77 code77 (by kernel_rfl) (Nat.le_of_ble_eq_true rfl) (fun a ha => ?_)
 replace ha : Has 27 [(0, .agg #[.slice s.A s.n s.c]), (1, iv f), (2, iv arg), (3, iv fuel)] a := ha
 refine wp_seq (jY [0, 1, 2] (jV (xQ 4 [.slice s.A s.n s.c] 30 (ptr · 0) ha hS fun b1 w a hb2 hS ha => ?_)))
 refine jX [(1, 8, .slice none 0 0), (2, 9, .bool false)] ha fun a ha => ?_
 refine jK (jQ (wp_seq (wp_seq (jY [0, 1, 2, 3, 4, 5] (zG 11 ha (hS.blk 0 rfl) fun a ha => ?_)))))
 refine jX [(1, 12, iv f), (2, 13, iv arg), (3, 14, iv fuel)] ha fun a ha => ?_
 refine jV (qH 15 (vs := [.agg #[.slice s.A s.n s.c], iv f, iv arg, iv fuel]) ha (ask_sat hS (hr.sat hS) hf) fun v3 w a hp4 ha => ?_)
 obtain ⟨rfl, hS⟩ := hp4
 refine jX [(5, 16, .bool (!(askB l f arg fuel)))] ha fun a ha => ?_
 refine jK (jQ ?_)
 rcases Bool.eq_false_or_eq_true (askB l f arg fuel) with c5 | c5
 ·
  refine jG ha rfl (yH c5) ?_
  refine wp_skip (jQ (wp_seq (jY [0, 1, 2, 3, 4, 5, 6] (zG 18 ha (hS.blk 0 rfl) fun a ha => ?_))))
  refine jX [(1, 19, iv f), (2, 20, iv arg), (3, 21, iv fuel)] ha fun a ha => ?_
  refine jV (qH 22 (vs := [.agg #[.slice s.A s.n s.c], iv f, iv arg, iv fuel]) ha (run_sat hS (hr.sat hS) c5) fun v6 w a hp7 ha => ?_)
  obtain ⟨tr1, rfl, hS⟩ := hp7
  replace hS : Sat w0 w ((rE tr1 ((rn l f arg fuel).m.trace)) :: (SX.blk b1 [.slice s.A s.n s.c] 30) :: []) := hS
  refine jV (qH 23 (vs := [(oG ((rn l f arg fuel).k) ((rn l f arg fuel).v) tr1 ((rn l f arg fuel).m.made))]) ha (qsays_sat hS (trace_len c5)) fun v8 w a hp9 ha => ?_)
  obtain ⟨oq, rfl, hS⟩ := hp9
  refine jX [(6, 10, .slice oq.A oq.n oq.c)] ha fun a ha => ?_
  refine jK (jQ (wp_seq (jY [0, 1, 2, 3, 4] (jX [(0, 24, .slice oq.A oq.n oq.c), (1, 25, .slice oq.A oq.n oq.c)] ha fun a ha => ?_))))
  refine jV (qH 26 (vs := [.slice oq.A oq.n oq.c]) ha (good_sat hS (hS.rdRow (s := oq) 0 rfl)) fun v10 w a hp11 ha => ?_)
  obtain ⟨rfl, hS⟩ := hp11
  refine jX [(3, 8, .slice oq.A oq.n oq.c), (4, 9, .bool (entriesB (saysL ((rn l f arg fuel).m.trace))))] ha fun a ha => ?_
  refine jK ?_
  replace ha := ha.as [(8, .slice oq.A oq.n oq.c), (9, .bool (entriesB (saysL ((rn l f arg fuel).m.trace))))] rfl
  refine jQ (wp_ret (yW ha (by kernel_rfl) (xK (t := 8) ha rfl) (xK (t := 9) ha rfl) ?_))
  rw [entB_yes c5, enL_yes c5]
  replace hS : Sat w0 w ((rI oq (saysL ((rn l f arg fuel).m.trace))) :: []) := hS.pickN 3 [0] (by decide) rfl
  exact ⟨oq, rfl, hS⟩
 refine qX ha rfl (kY c5) ?_
 refine wp_seq (jY [0, 1, 2] (jV (xQ 17 [] 3 (fun b => .slice (some ⟨b, 0, none⟩) 0 0) ha hS fun b12 w a hb13 hS ha => ?_)))
 refine jX [(1, 8, .slice (some ⟨b12, 0, none⟩) 0 0), (2, 9, .bool false)] ha fun a ha => ?_
 refine jK (jQ (wp_ret (xJ (yW ha (by kernel_rfl) (xK (t := 8) ha rfl) (xK (t := 9) ha rfl) ?_))))
 rw [entB_no c5, enL_no c5]
 replace hS := hS.blk0 1 0 rfl
 exact ⟨⟨some ⟨b12, 0, none⟩, 0, 0⟩, rfl, hS.pickN 2 [0] (by decide) rfl⟩
theorem said7_sat {w0 w : World} {Rs : List Asn} {s : Sl} {l : List (List ST)} {f arg fuel : Int} (hS : Sat w0 w Rs) (hr : RdP w s l) (hf : Fits l) :
  Calls Try.prog 77 #[.agg #[.slice s.A s.n s.c], iv f, iv arg, iv fuel] w (Ret fun r w' => ∃ o : Sl, r = .tuple #[.slice o.A o.n o.c, .bool (entB l f arg fuel)] ∧ Sat w0 w' (rI o (enL l f arg fuel) :: Rs)) :=
 (said7_sat0 hr hf).mono fun e w' h => by
  cases e with
  | returned r => obtain ⟨o, h1, h2⟩ := h; exact ⟨o, h1, hS.comp h2⟩
  | _ => exact h.elim
end Go.Proofs.Ytggahaddkoifkaa.G
end
section
namespace Go.Proofs.Ytggahaddkoifkaa.G
open Go.RowKit Go.Proofs.Ytggahaddkoifkaa.SX Go.Proofs.YtggahaddkoifkaaW.PrintWords Go.Proofs.YtggahaddkoifkaaW.PrintLast Go.Proofs.YtggahaddkoifkaaW.PrintMore
set_option linter.unusedVariables false
set_option linter.unusedSimpArgs false
def leakG (l : List (List ST)) (f fuel x : Int) : Bool × Bool := (entB l f x fuel && !(tidyB (enL l f x fuel)), entB l f x fuel)
theorem leakG_no {l : List (List ST)} {f fuel x : Int} (h : entB l f x fuel = false) : leakG l f fuel x = (false, false) := by unfold leakG; rw [h]; rfl
theorem leakG_yes {l : List (List ST)} {f fuel x : Int} {b : Bool} (h : entB l f x fuel = true) (hb : tidyB (enL l f x fuel) = b) : leakG l f fuel x = (!b, true) := by unfold leakG; rw [h, hb]; rfl
def leakAP (l : List (List ST)) (f low high fuel : Int) : List Int × Bool := (argsL (leakG l f fuel) low high, argsB (leakG l f fuel) low high)
theorem leakAP_len (l : List (List ST)) (f low high fuel : Int) : (leakAP l f low high fuel).1.length ≤ 1000000 := argsL_len
theorem leak_l4 {l : List (List ST)} {f low high fuel : Int} (h : l4B l f low high fuel = false) : argsB (leakG l f fuel) low high = false := by
 rw [← Bool.not_eq_true]
 intro h2
 simp only [argsB, Bool.and_eq_true, List.all_eq_true, List.mem_range] at h2
 obtain ⟨h3, h4⟩ := h2
 obtain ⟨h5, h6, h7, h8⟩ := rangeB_le h3
 have h9 : entB l f (low + ((0 : Nat) : Int)) fuel = true := h4 0 (by unfold cntN; omega)
 rw [show low + ((0 : Nat) : Int) = low by omega] at h9
 have hk : askB l f low fuel = true := by unfold entB at h9; exact (Bool.and_eq_true_iff.1 h9).1
 have : l4B l f low high fuel = true := by
  simp only [rangeB, Bool.and_eq_true] at h3
  simp only [l4B, hk, h3.1.2, Bool.and_eq_true, decide_eq_true_eq, true_and]
  omega
 rw [this] at h; cases h
theorem code84 : Try.f84.body = some (Code.seq (cr Try.f84 0 false) (Code.seq (cr Try.f84 1 false) (Code.seq (cr Try.f84 2 false) Code.ret))) := by kernel_rfl
set_option maxRecDepth 20000 in
set_option maxHeartbeats 1000000 in
theorem LeakingArgs1_sat {w0 w : World} {X : Asn} {Rs : List Asn} {s : Sl} {l : List (List ST)} {f fuel x : Int} {b1 b2 b3 : Nat} (hf : Fits l) (hS : Sat w0 w (X :: (SX.blk b1 [.slice s.A s.n s.c] 30) :: (SX.blk b2 [iv f] 3) :: (SX.blk b3 [iv fuel] 3) :: Rs)) (hr : RdP w0 s l) :
  Calls Try.prog 84 #[.int .i64 x, ptr b1 0, ptr b2 0, ptr b3 0] w (Ret fun r w' => r = .tuple #[.bool (((leakG l f fuel) x).1), .bool (((leakG l f fuel) x).2)] ∧ Sat w0 w' (X :: (SX.blk b1 [.slice s.A s.n s.c] 30) :: (SX.blk b2 [iv f] 3) :: (SX.blk b3 [iv fuel] 3) :: Rs)) := by
 refine enter (n := 24) Try.func84 code84 (by kernel_rfl) (Nat.le_of_ble_eq_true rfl) (fun a ha => ?_)
 replace ha : Has 24 [(0, iv x), (1, ptr b1 0), (2, ptr b2 0), (3, ptr b3 0)] a := ha
 refine wp_seq (jY [0, 1] (jX [(0, 5, .bool false), (1, 6, .bool false)] ha fun a ha => ?_))
 refine jK (jQ (wp_seq (jY [0, 1, 2, 3, 4, 5, 6, 7, 8, 9] (zG 10 ha (hS.blk 1 rfl) fun a ha => ?_))))
 refine qK (d := 11) (b := b2) (j := 0) ha (hS.blk 2 rfl) rfl fun a ha => ?_
 refine jX [(2, 12, iv x)] ha fun a ha => ?_
 refine qK (d := 13) (b := b3) (j := 0) ha (hS.blk 3 rfl) rfl fun a ha => ?_
 refine jV (qH 14 (vs := [.agg #[.slice s.A s.n s.c], iv f, iv x, iv fuel]) ha (ent_sat hS (hr.sat hS) hf) fun v1 w a hp2 ha => ?_)
 obtain ⟨oe, rfl, hS⟩ := hp2
 refine jX [(5, 9, .tuple #[.slice oe.A oe.n oe.c, .bool (entB l f x fuel)]), (6, 15, .slice oe.A oe.n oe.c), (7, 16, .bool (entB l f x fuel)), (8, 7, .slice oe.A oe.n oe.c), (9, 8, .bool (entB l f x fuel))] ha fun a ha => ?_
 refine jK (jQ (wp_seq (jY [0, 1, 2, 3, 4, 5, 6, 7, 8] (jX [(0, 17, .bool (entB l f x fuel)), (1, 18, .bool (entB l f x fuel))] ha fun a ha => ?_))))
 rcases Bool.eq_false_or_eq_true (entB l f x fuel) with c3 | c3
 ·
  replace ha := ha.turn 8 (.bool true) rfl (congrArg Value.bool c3)
  replace ha := ha.turn 17 (.bool true) rfl (congrArg Value.bool c3)
  replace ha := ha.turn 18 (.bool true) rfl (congrArg Value.bool c3)
  have hen := c3
  refine jX [(2, 19, .slice oe.A oe.n oe.c)] ha fun a ha => ?_
  refine jV (qH 20 (vs := [.slice oe.A oe.n oe.c]) ha (tidy_sat hS (hS.rdRow (s := oe) 0 rfl) (entB_en hen)) fun v4 w a hp5 ha => ?_)
  obtain ⟨rfl, hS⟩ := hp5
  refine jX [(4, 21, .bool (!((tidyB (enL l f x fuel))))), (5, 22, .bool (!((tidyB (enL l f x fuel))))), (6, 23, .bool true), (7, 5, .bool (!((tidyB (enL l f x fuel))))), (8, 6, .bool true)] ha fun a ha => ?_
  refine jK ?_
  replace ha := ha.as [(5, .bool (!((tidyB (enL l f x fuel))))), (6, .bool true)] rfl
  refine jQ (wp_ret (yW ha (by kernel_rfl) (xK (t := 5) ha rfl) (xK (t := 6) ha rfl) ?_))
  replace hS : Sat w0 w (X :: (SX.blk b1 [.slice s.A s.n s.c] 30) :: (SX.blk b2 [iv f] 3) :: (SX.blk b3 [iv fuel] 3) :: Rs) := hS.pickN 5 [1, 2, 3, 4] (by decide) rfl
  have hG := leakG_yes (l := l) (f := f) (x := x) (fuel := fuel) c3 rfl
  exact ⟨by rw [hG], hS⟩
 replace ha := ha.turn 8 (.bool false) rfl (congrArg Value.bool c3)
 replace ha := ha.turn 17 (.bool false) rfl (congrArg Value.bool c3)
 replace ha := ha.turn 18 (.bool false) rfl (congrArg Value.bool c3)
 refine jX [(2, 19, undef), (3, 20, undef), (4, 21, undef), (5, 22, .bool false), (6, 23, .bool false), (7, 5, .bool false), (8, 6, .bool false)] ha fun a ha => ?_
 refine jK ?_
 replace ha := ha.as [(5, .bool false), (6, .bool false)] rfl
 refine jQ (wp_ret (yW ha (by kernel_rfl) (xK (t := 5) ha rfl) (xK (t := 6) ha rfl) ?_))
 replace hS : Sat w0 w (X :: (SX.blk b1 [.slice s.A s.n s.c] 30) :: (SX.blk b2 [iv f] 3) :: (SX.blk b3 [iv fuel] 3) :: Rs) := hS.pickN 5 [1, 2, 3, 4] (by decide) rfl
 have hG := leakG_no c3
 exact ⟨by rw [hG], hS⟩
theorem code47 : Try.f47.body = some (Code.seq (cr Try.f47 0 false) (Code.seq (cr Try.f47 1 false) Code.ret)) := by kernel_rfl
set_option maxRecDepth 20000 in
set_option maxHeartbeats 1000000 in
theorem impl_LeakingArgs_sat0 {w0 : World} {s : Sl} {l : List (List ST)} {f low high fuel : Int} (hr : RdP w0 s l) (hf : Fits l) :
  Calls Try.prog 47 #[.agg #[.slice s.A s.n s.c], iv f, iv low, iv high, iv fuel] w0 (Ret fun r w' => ∃ o : Sl, r = .tuple #[.slice o.A o.n o.c, .bool ((leakAP l f low high fuel).2)] ∧ Sat w0 w' [rI o ((leakAP l f low high fuel).1)]) := by
 have hS : Sat w0 w0 [] := Sat.start w0
 refine enter (n := 18) Try.func47 code47 (by kernel_rfl) (Nat.le_of_ble_eq_true rfl) (fun a ha => ?_)
 replace ha : Has 18 [(0, .agg #[.slice s.A s.n s.c]), (1, iv f), (2, iv low), (3, iv high), (4, iv fuel)] a := ha
 refine wp_seq (jY [0, 1, 2, 3, 4] (jV (xQ 5 [.slice s.A s.n s.c] 30 (ptr · 0) ha hS fun b1 w a hb2 hS ha => ?_)))
 refine jV (xQ 6 [iv f] 3 (ptr · 0) ha hS fun b3 w a hb4 hS ha => ?_)
 refine jV (xQ 9 [iv fuel] 3 (ptr · 0) ha hS fun b5 w a hb6 hS ha => ?_)
 refine jX [(3, 10, .slice none 0 0), (4, 11, .bool false)] ha fun a ha => ?_
 refine jK (jQ (wp_seq (jY [0, 1, 2, 3, 4, 5, 6, 7] (jX [(0, 12, iv low), (1, 13, iv high), (2, 14, .func (.func 84) #[] #[ptr b1 0, ptr b3 0, ptr b5 0])] ha fun a ha => ?_))))
 replace hS : Sat w0 w ((SX.blk b1 [.slice s.A s.n s.c] 30) :: (SX.blk b3 [iv f] 3) :: (SX.blk b5 [iv fuel] 3) :: []) := hS.pickN 3 [2, 1, 0] (by decide) rfl
 refine jV (qH 15 (vs := [iv low, iv high, .func (.func 84) #[] #[ptr b1 0, ptr b3 0, ptr b5 0]]) ha (argsWith_sat (F := 84) (cap := [ptr b1 0, ptr b3 0, ptr b5 0]) (g := (leakG l f fuel)) hS Try.func84 (by kernel_rfl) (fun w1 X x h1 h2 hX => LeakingArgs1_sat hf hX hr)) fun v7 w a hp8 ha => ?_)
 obtain ⟨o, rfl, hS⟩ := hp8
 have hlen := (hS.rdRow (s := o) 0 rfl).len
 refine jX [(4, 16, .slice o.A o.n o.c), (5, 17, .bool (argsB (leakG l f fuel) low high)), (6, 10, .slice o.A o.n o.c), (7, 11, .bool (argsB (leakG l f fuel) low high))] ha fun a ha => ?_
 refine jK (jQ (wp_ret (yW ha (by kernel_rfl) (xK (t := 10) ha rfl) (xK (t := 11) ha rfl) ?_)))
 replace hS : Sat w0 w ((rI o (argsL (leakG l f fuel) low high)) :: []) := hS.pickN 4 [0] (by decide) rfl
 exact ⟨o, rfl, hS⟩
theorem impl_LeakingArgs_sat {w0 w : World} {Rs : List Asn} {s : Sl} {l : List (List ST)} {f low high fuel : Int} (hS : Sat w0 w Rs) (hr : RdP w s l) (hf : Fits l) :
  Calls Try.prog 47 #[.agg #[.slice s.A s.n s.c], iv f, iv low, iv high, iv fuel] w (Ret fun r w' => ∃ o : Sl, r = .tuple #[.slice o.A o.n o.c, .bool ((leakAP l f low high fuel).2)] ∧ Sat w0 w' (rI o ((leakAP l f low high fuel).1) :: Rs)) :=
 (impl_LeakingArgs_sat0 hr hf).mono fun e w' h => by
  cases e with
  | returned r => obtain ⟨o, h1, h2⟩ := h; exact ⟨o, h1, hS.comp h2⟩
  | _ => exact h.elim
theorem code46 : Try.f46.body = some (Code.seq (cr Try.f46 0 false) (Code.seq (cr Try.f46 1 false) (Code.seq (Code.seq (cr Try.f46 2 false) (Code.cond (Operand.tmp 23) (Code.seq (cr Try.f46 3 false) Code.ret) Code.skip)) (Code.seq (Code.seq (cr Try.f46 4 false) (Code.block 0 (Code.loop (Code.seq (Code.seq (cr Try.f46 5 false) (Code.cond (Operand.tmp 28) Code.skip (Code.exit 0))) (Code.seq (Code.block 1 (Code.seq (cr Try.f46 7 false) (Code.seq (Code.seq (cr Try.f46 8 false) (Code.cond (Operand.tmp 40) (Code.seq (cr Try.f46 9 false) Code.ret) Code.skip)) (Code.seq (cr Try.f46 10 false) (Code.cond (Operand.tmp 44) (cr Try.f46 11 false) Code.skip))))) (cr Try.f46 6 false)))))) (Code.seq (cr Try.f46 12 false) Code.ret))))) := by kernel_rfl
set_option maxRecDepth 20000 in
set_option maxHeartbeats 1000000 in
theorem spec_LeakingArgs_sat0 {w0 : World} {s : Sl} {l : List (List ST)} {f low high fuel : Int} (hr : RdP w0 s l) (hf : Fits l) :
  Calls Try.prog 46 #[.agg #[.slice s.A s.n s.c], iv f, iv low, iv high, iv fuel] w0 (Ret fun r w' => ∃ o : Sl, r = .tuple #[.slice o.A o.n o.c, .bool ((leakAP l f low high fuel).2)] ∧ Sat w0 w' [rI o ((leakAP l f low high fuel).1)]) := by
 have hS : Sat w0 w0 [] := Sat.start w0
 refine enter (n := 50) Try.func46 code46 (by kernel_rfl) (Nat.le_of_ble_eq_true rfl) (fun a ha => ?_)
 replace ha : Has 50 [(0, .agg #[.slice s.A s.n s.c]), (1, iv f), (2, iv low), (3, iv high), (4, iv fuel)] a := ha
 refine wp_seq (jY [0, 1, 2] (jV (xQ 5 [.slice s.A s.n s.c] 30 (ptr · 0) ha hS fun b1 w a hb2 hS ha => ?_)))
 refine jX [(1, 10, .slice none 0 0), (2, 11, .bool false)] ha fun a ha => ?_
 refine jK (jQ (wp_seq (jY [0, 1] (jV (xQ 16 [] 3 (fun b => .slice (some ⟨b, 0, none⟩) 0 0) ha hS fun b3 w a hb4 hS ha => ?_)))))
 refine jX [(1, 12, .slice (some ⟨b3, 0, none⟩) 0 0)] ha fun a ha => ?_
 refine jK (jQ (wp_seq (wp_seq (jY [0, 1, 2, 3, 4, 5, 6] (zG 17 ha (hS.blk 1 rfl) fun a ha => ?_)))))
 refine jX [(1, 18, iv f), (2, 19, iv low), (3, 20, iv high), (4, 21, iv fuel)] ha fun a ha => ?_
 refine jV (qH 22 (vs := [.agg #[.slice s.A s.n s.c], iv f, iv low, iv high, iv fuel]) ha (l4_sat hS (hr.sat hS) hf) fun v5 w a hp6 ha => ?_)
 obtain ⟨rfl, hS⟩ := hp6
 refine jX [(6, 23, .bool (!((l4B l f low high fuel))))] ha fun a ha => ?_
 refine jK (jQ ?_)
 rcases Bool.eq_false_or_eq_true (l4B l f low high fuel) with c7 | c7
 ·
  have hbb := rangeB_le (l4B_of c7).1
  refine jG ha rfl (yH c7) ?_
  refine wp_skip (jQ (wp_seq (wp_seq (jY [0, 1] (jX [(0, 25, iv low), (1, 13, iv low)] ha fun a ha => ?_)))))
  refine jK (jQ (wp_block ?_))
  replace hS := hS.blk0 1 0 rfl
  replace hS : Sat w0 w ((SX.blk b1 [.slice s.A s.n s.c] 30) :: (rI (⟨some ⟨b3, 0, none⟩, 0, 0⟩ : Sl) []) :: []) := hS.pickN 2 [1, 0] (by decide) rfl
  refine wp_loop_ghost (fun n_ a_ w_ => ∃ (i : Nat) (x : Int) (o : Sl), n_ = cntN low high - i ∧ (i ≤ cntN low high) ∧ (x = low + (i : Int)) ∧ (∀ j : Nat, j < i → ((leakG l f fuel) (low + (j : Int))).2 = true) ∧ Has 50 [(1, iv f), (3, iv high), (4, iv fuel), (5, ptr b1 0), (12, .slice o.A o.n o.c), (13, iv x)] a_ ∧ Sat w0 w_ ((SX.blk b1 [.slice s.A s.n s.c] 30) :: (rI o (hitsN (leakG l f fuel) low i)) :: [])) _ ⟨0, low, ⟨some ⟨b3, 0, none⟩, 0, 0⟩, rfl, Nat.zero_le _, by omega, (fun j hj => by omega), ha.keeps [1, 3, 4, 5, 12, 13] _ rfl, hS⟩ ?_
  rintro n_ a w ⟨i, x, o, rfl, hi, hx, hall, ha, hS⟩
  refine wp_seq (wp_seq (jY [0, 1, 2] (jX [(0, 26, iv x), (1, 27, iv high), (2, 28, .bool (decide (x ≤ high)))] ha fun a ha => ?_)))
  refine jK (jQ ?_)
  by_cases c8 : x ≤ high
  ·
   refine qX ha rfl (decide_eq_true c8) ?_
   refine wp_skip (jQ (wp_seq (wp_block (wp_seq (jY [0, 1, 2, 3, 4, 5, 6, 7, 8, 9] (zG 32 ha (hS.blk 0 rfl) fun a ha => ?_))))))
   refine jX [(1, 33, iv f), (2, 34, iv x), (3, 35, iv fuel)] ha fun a ha => ?_
   refine jV (qH 36 (vs := [.agg #[.slice s.A s.n s.c], iv f, iv x, iv fuel]) ha (said7_sat hS (hr.sat hS) hf) fun v9 w a hp10 ha => ?_)
   obtain ⟨oe, rfl, hS⟩ := hp10
   refine jX [(5, 31, .tuple #[.slice oe.A oe.n oe.c, .bool (entB l f x fuel)]), (6, 37, .slice oe.A oe.n oe.c), (7, 38, .bool (entB l f x fuel)), (8, 14, .slice oe.A oe.n oe.c), (9, 15, .bool (entB l f x fuel))] ha fun a ha => ?_
   refine jK (jQ (wp_seq (wp_seq (jY [0, 1] (jX [(0, 39, .bool (entB l f x fuel)), (1, 40, .bool (!((entB l f x fuel))))] ha fun a ha => ?_)))))
   refine jK (jQ ?_)
   rcases Bool.eq_false_or_eq_true (entB l f x fuel) with c11 | c11
   ·
    have hen := c11
    refine jG ha rfl (yH c11) ?_
    refine wp_skip (jQ (wp_seq (jY [0, 1, 2] (jX [(0, 42, .slice oe.A oe.n oe.c)] ha fun a ha => ?_))))
    refine jV (qH 43 (vs := [.slice oe.A oe.n oe.c]) ha (qtidy_sat hS (hS.rdRow (s := oe) 0 rfl) (entB_en hen)) fun v12 w a hp13 ha => ?_)
    obtain ⟨rfl, hS⟩ := hp13
    refine jX [(2, 44, .bool (!((tidyB (enL l f x fuel)))))] ha fun a ha => ?_
    refine jK (jQ ?_)
    rcases Bool.eq_false_or_eq_true (tidyB (enL l f x fuel)) with c14 | c14
    ·
     refine jG ha rfl (yH c14) ?_
     refine wp_skip (in_n (jQ (jY [0, 1, 2] (jX [(0, 29, iv x)] ha fun a ha => ?_))))
     refine zK 30 (x + 1) ha fun a ha => ?_
     refine jX [(2, 13, iv (x + 1))] ha fun a ha => ?_
     refine jK (jQ ?_)
     have hG := leakG_yes c11 c14
     replace hS : Sat w0 w ((SX.blk b1 [.slice s.A s.n s.c] 30) :: (rI o (hitsN (leakG l f fuel) low i)) :: []) := hS.pickN 3 [1, 2] (by decide) rfl
     replace hS : Sat w0 w ((SX.blk b1 [.slice s.A s.n s.c] 30) :: (rI o (hitsN (leakG l f fuel) low (i + 1))) :: []) := by rw [hitsN_no hx (by rw [hG]; rfl)]; exact hS
     exact ⟨_, by unfold cntN at *; omega, i + 1, x + 1, o, rfl, by unfold cntN at *; omega, by omega, all_next hx hall (by rw [hG]), ha.keeps [1, 3, 4, 5, 12, 13] _ rfl, hS⟩
    refine qX ha rfl (kY c14) ?_
    refine jY [0, 1, 2, 3, 4] (jX [(0, 45, .slice o.A o.n o.c), (1, 46, iv x)] ha fun a ha => ?_)
    refine jV (xQ 47 [iv x] 3 (fun b => .slice (some ⟨b, 0, none⟩) 1 1) ha hS fun b15 w a hb16 hS ha => ?_)
    refine jV (zW (news := [iv x]) (z := iv 0) (sz := 1) (bytes := 8) (T2 := 3) (xs' := SX.encI ((hitsN (leakG l f fuel) low i) ++ [x])) 3 0 ha (by decide) (yU (op := (Op.call { callee := (Callee.builtin Builtin.append), args := #[(Operand.tmp 45), (Operand.tmp 47)], argTypes := #[36, 36] })) (d := some 48) (ty := 36)) rfl rfl (by kernel_rfl) (by kernel_rfl) rfl (by decide) hS rfl rfl (by simp) rfl (by rw [encI_length]; have h8 := hitsN_len (leakG l f fuel) low i; have h9 := hi; unfold cntN at h9; simp only [List.length_cons, List.length_nil]; omega) (by decide) (encI_snoc _ _) fun s20 w a hS hn21 ha => ?_)
    refine jX [(4, 12, .slice s20.A s20.n s20.c)] ha fun a ha => ?_
    refine jK (in_n (jQ (jY [0, 1, 2] (jX [(0, 29, iv x)] ha fun a ha => ?_))))
    refine zK 30 (x + 1) ha fun a ha => ?_
    refine jX [(2, 13, iv (x + 1))] ha fun a ha => ?_
    refine jK (jQ ?_)
    have hG := leakG_yes c11 c14
    replace hS : Sat w0 w ((SX.blk b1 [.slice s.A s.n s.c] 30) :: (rI s20 ((hitsN (leakG l f fuel) low i) ++ [x])) :: []) := hS.pickN 4 [2, 3] (by decide) rfl
    replace hS : Sat w0 w ((SX.blk b1 [.slice s.A s.n s.c] 30) :: (rI s20 (hitsN (leakG l f fuel) low (i + 1))) :: []) := by rw [hitsN_yes hx (by rw [hG]; rfl)]; exact hS
    exact ⟨_, by unfold cntN at *; omega, i + 1, x + 1, s20, rfl, by unfold cntN at *; omega, by omega, all_next hx hall (by rw [hG]), ha.keeps [1, 3, 4, 5, 12, 13] _ rfl, hS⟩
   refine qX ha rfl (kY c11) ?_
   refine wp_seq (jY [0, 1, 2] (jV (xQ 41 [] 3 (fun b => .slice (some ⟨b, 0, none⟩) 0 0) ha hS fun b22 w a hb23 hS ha => ?_)))
   refine jX [(1, 10, .slice (some ⟨b22, 0, none⟩) 0 0), (2, 11, .bool false)] ha fun a ha => ?_
   refine jK (jQ (wp_ret (xJ (in_r (xJ (xJ (in_r (xJ (yW ha (by kernel_rfl) (xK (t := 10) ha rfl) (xK (t := 11) ha rfl) ?_)))))))))
   replace hS := hS.blk0 1 0 rfl
   replace hS : Sat w0 w ((rI (⟨some ⟨b22, 0, none⟩, 0, 0⟩ : Sl) []) :: []) := hS.pickN 4 [0] (by decide) rfl
   have hG := leakG_no c11
   have hB : (leakAP l f low high fuel).2 = false := argsB_no hx (by unfold cntN at *; omega) (by rw [hG])
   have hL : (leakAP l f low high fuel).1 = [] := argsL_no hB
   exact ⟨⟨some ⟨b22, 0, none⟩, 0, 0⟩, by rw [hB], by rw [hL]; exact hS⟩
  refine jG ha rfl (decide_eq_false c8) ?_
  refine wp_exit (yQ (yQ (in_x (jQ (wp_seq (jY [0, 1, 2] (jX [(0, 49, .slice o.A o.n o.c), (1, 10, .slice o.A o.n o.c), (2, 11, .bool true)] ha fun a ha => ?_)))))))
  refine jK ?_
  replace ha := ha.as [(10, .slice o.A o.n o.c), (11, .bool true)] rfl
  refine jQ (wp_ret (yW ha (by kernel_rfl) (xK (t := 10) ha rfl) (xK (t := 11) ha rfl) ?_))
  have hie : i = cntN low high := by unfold cntN at *; omega
  have hB : (leakAP l f low high fuel).2 = true := argsB_yes (l4B_of c7).1 (by rw [← hie]; exact hall)
  have hL : (leakAP l f low high fuel).1 = hitsN (leakG l f fuel) low i := by rw [hie]; exact argsL_yes hB
  replace hS : Sat w0 w ((rI o (hitsN (leakG l f fuel) low i)) :: []) := hS.pickN 2 [1] (by decide) rfl
  exact ⟨o, by rw [hB], by rw [hL]; exact hS⟩
 refine qX ha rfl (kY c7) ?_
 refine wp_seq (jY [0, 1, 2] (jX [(0, 24, .slice (some ⟨b3, 0, none⟩) 0 0), (1, 10, .slice (some ⟨b3, 0, none⟩) 0 0), (2, 11, .bool false)] ha fun a ha => ?_))
 refine jK (jQ (wp_ret (xJ (yW ha (by kernel_rfl) (xK (t := 10) ha rfl) (xK (t := 11) ha rfl) ?_))))
 replace hS := hS.blk0 1 0 rfl
 replace hS : Sat w0 w ((rI (⟨some ⟨b3, 0, none⟩, 0, 0⟩ : Sl) []) :: []) := hS.pickN 2 [0] (by decide) rfl
 have hB : (leakAP l f low high fuel).2 = false := leak_l4 c7
 have hL : (leakAP l f low high fuel).1 = [] := argsL_no hB
 exact ⟨⟨some ⟨b3, 0, none⟩, 0, 0⟩, by rw [hB], by rw [hL]; exact hS⟩
theorem spec_LeakingArgs_sat {w0 w : World} {Rs : List Asn} {s : Sl} {l : List (List ST)} {f low high fuel : Int} (hS : Sat w0 w Rs) (hr : RdP w s l) (hf : Fits l) :
  Calls Try.prog 46 #[.agg #[.slice s.A s.n s.c], iv f, iv low, iv high, iv fuel] w (Ret fun r w' => ∃ o : Sl, r = .tuple #[.slice o.A o.n o.c, .bool ((leakAP l f low high fuel).2)] ∧ Sat w0 w' (rI o ((leakAP l f low high fuel).1) :: Rs)) :=
 (spec_LeakingArgs_sat0 hr hf).mono fun e w' h => by
  cases e with
  | returned r => obtain ⟨o, h1, h2⟩ := h; exact ⟨o, h1, hS.comp h2⟩
  | _ => exact h.elim
end Go.Proofs.Ytggahaddkoifkaa.G
end
section
namespace Go.Proofs.Ytggahaddkoifkaa.G
open Go.RowKit Go.Proofs.Ytggahaddkoifkaa.SX Go.Proofs.YtggahaddkoifkaaW.PrintWords Go.Proofs.YtggahaddkoifkaaW.PrintLast Go.Proofs.YtggahaddkoifkaaW.PrintMore
set_option linter.unusedVariables false
set_option linter.unusedSimpArgs false
theorem code11 : Try.f11.body = some (Code.seq (cr Try.f11 0 false) (Code.seq (cr Try.f11 1 false) (Code.seq (cr Try.f11 2 false) (Code.seq (Code.seq (cr Try.f11 3 false) (Code.cond (Operand.tmp 26) (Code.seq (cr Try.f11 4 false) Code.ret) Code.skip)) (Code.seq (cr Try.f11 5 false) (Code.seq (cr Try.f11 6 false) (Code.seq (cr Try.f11 7 false) (Code.seq (Code.seq (cr Try.f11 8 false) (Code.cond (Operand.tmp 56) (Code.seq (cr Try.f11 9 false) Code.ret) Code.skip)) (Code.seq (Code.seq (cr Try.f11 10 true) (Code.cond (Operand.tmp 61) (Code.seq (cr Try.f11 11 false) Code.ret) Code.skip)) (Code.seq (cr Try.f11 12 false) (Code.seq (cr Try.f11 13 false) (Code.seq (Code.seq (cr Try.f11 14 false) (Code.cond (Operand.tmp 77) (Code.seq (cr Try.f11 15 false) Code.ret) Code.skip)) (Code.seq (cr Try.f11 16 false) (Code.seq (cr Try.f11 17 false) (Code.seq (cr Try.f11 18 false) (Code.seq (cr Try.f11 19 false) (Code.seq (Code.seq (cr Try.f11 20 false) (Code.cond (Operand.tmp 85) (Code.seq (cr Try.f11 21 false) Code.ret) Code.skip)) (Code.seq (Code.seq (cr Try.f11 22 false) (Code.cond (Operand.tmp 88) (Code.seq (cr Try.f11 23 false) Code.ret) Code.skip)) (Code.seq (cr Try.f11 24 false) (Code.seq (Code.seq (cr Try.f11 25 false) (Code.cond (Operand.tmp 107) (Code.seq (cr Try.f11 26 false) Code.ret) Code.skip)) (Code.seq (cr Try.f11 27 false) (Code.seq (cr Try.f11 28 false) (Code.seq (Code.seq (cr Try.f11 29 false) (Code.cond (Operand.tmp 112) (Code.seq (cr Try.f11 30 false) Code.ret) Code.skip)) (Code.seq (Code.seq (cr Try.f11 31 false) (Code.cond (Operand.tmp 115) (Code.seq (cr Try.f11 32 false) Code.ret) Code.skip)) (Code.seq (cr Try.f11 33 false) Code.ret))))))))))))))))))))))))) := by kernel_rfl
set_option maxRecDepth 20000 in
set_option maxHeartbeats 1000000 in
theorem law11_walk (w0 : World) (s0 : Sl) (l0 : List (List LT)) (f : Int) (low : Int) (high : Int) (fuel : Int) (hr0 : RdA w0 s0 l0) :
  Calls Try.prog 11 #[.agg #[.slice s0.A s0.n s0.c], iv f, iv low, iv high, iv fuel] w0 (Ret fun r w' => r = .bool true ∧ Below w0.heap.size w0 w') := by
 have hS : Sat w0 w0 [] := Sat.start w0
 refine enter (n := 116) Try.func11 code11 (by kernel_rfl) (Nat.le_of_ble_eq_true rfl) (fun a ha => ?_)
 replace ha : Has 116 [(0, .agg #[.slice s0.A s0.n s0.c]), (1, iv f), (2, iv low), (3, iv high), (4, iv fuel)] a := ha
 refine wp_seq (jY [0, 1] (jV (xQ 5 [.slice s0.A s0.n s0.c] 24 (ptr · 0) ha hS fun b1 w a hb2 hS ha => ?_)))
 refine jX [(1, 10, .bool false)] ha fun a ha => ?_
 refine jK (jQ (wp_seq (jY [0] (jX [(0, 11, iv 1048576)] ha fun a ha => ?_))))
 refine jK (jQ (wp_seq (jY [0, 1, 2, 3] (zG 22 ha (hS.blk 0 rfl) fun a ha => ?_))))
 refine jX [(1, 23, iv 1048576)] ha fun a ha => ?_
 refine jV (qH 24 (vs := [.agg #[.slice s0.A s0.n s0.c], iv 1048576]) ha (szProgram_sat hS (hr0.sat hS) (by omega) (by omega)) fun v3 w a hp4 ha => ?_)
 obtain ⟨rfl, hS⟩ := hp4
 refine jX [(3, 11, iv (szP l0 1048576))] ha fun a ha => ?_
 refine jK (jQ (wp_seq (wp_seq (jY [0, 1] (jX [(0, 25, iv (szP l0 1048576)), (1, 26, .bool (decide ((szP l0 1048576) < 0)))] ha fun a ha => ?_)))))
 refine jK (jQ ?_)
 by_cases c5 : (szP l0 1048576) < 0
 ·
  refine qX ha rfl (decide_eq_true c5) ?_
  refine wp_seq (jY [0] (jX [(0, 10, .bool true)] ha fun a ha => ?_))
  refine jK (jQ (wp_ret (xJ (qU ha (by kernel_rfl) (xK (t := 10) ha rfl) ?_))))
  exact ⟨rfl, hS.below⟩
 have hf0 : Fits l0 := by have h8 : 0 ≤ szP l0 1048576 := (by omega); have h9 := szP_ok l0 1048576 h8; exact ⟨by omega, by omega⟩
 have htp0 := (toP_fits hf0).tot
 have hz0 := szP_ok l0 1048576 (by omega)
 refine jG ha rfl (decide_eq_false c5) ?_
 refine wp_skip (jQ (wp_seq (jY [0, 1, 2, 3, 4, 5, 6, 7, 8, 9, 10, 11] (zG 28 ha (hS.blk 0 rfl) fun a ha => ?_))))
 refine jV (qH 29 (vs := [.agg #[.slice s0.A s0.n s0.c]]) ha (toProgram_sat hS (hr0.sat hS) hf0) fun v6 w a hp7 ha => ?_)
 obtain ⟨sp1, rfl, hS⟩ := hp7
 refine jX [(2, 30, iv f), (3, 31, iv low), (4, 32, iv high), (5, 33, iv fuel)] ha fun a ha => ?_
 refine jV (qH 34 (vs := [.agg #[.slice sp1.A sp1.n sp1.c], iv f, iv low, iv high, iv fuel]) ha (spec_LeakingArgs_sat hS (hS.rdS 0 rfl) (toP_fits hf0)) fun v8 w a hp9 ha => ?_)
 obtain ⟨o1, rfl, hS⟩ := hp9
 refine jX [(7, 27, .tuple #[.slice o1.A o1.n o1.c, .bool ((leakAP (toP l0) f low high fuel).2)]), (8, 35, .slice o1.A o1.n o1.c), (9, 36, .bool ((leakAP (toP l0) f low high fuel).2)), (10, 12, .slice o1.A o1.n o1.c), (11, 13, .bool ((leakAP (toP l0) f low high fuel).2))] ha fun a ha => ?_
 refine jK (jQ (wp_seq (jY [0, 1, 2, 3] (zG 37 ha (hS.blk 2 rfl) fun a ha => ?_))))
 refine jV (qH 38 (vs := [.agg #[.slice s0.A s0.n s0.c]]) ha (toProgram_sat hS (hr0.sat hS) hf0) fun v10 w a hp11 ha => ?_)
 obtain ⟨sp2, rfl, hS⟩ := hp11
 refine jV (xQ 14 [.slice none 0 0] 30 (ptr · 0) ha hS fun b12 w a hb13 hS ha => ?_)
 refine jV (jH 0 ha (xG (t := 30) (x := 14) (y := 38)) rfl rfl rfl (by kernel_rfl) hS rfl (Nat.le_of_ble_eq_true rfl) rfl fun w a hS ha => ?_)
 refine jK (jQ (wp_seq (jY [0, 1, 2, 3, 4, 5, 6, 7, 8, 9, 10] (zG 40 ha (hS.blk 0 rfl) fun a ha => ?_))))
 refine jX [(1, 41, iv f), (2, 42, iv low), (3, 43, iv high), (4, 44, iv fuel)] ha fun a ha => ?_
 refine jV (qH 45 (vs := [.agg #[.slice sp2.A sp2.n sp2.c], iv f, iv low, iv high, iv fuel]) ha (impl_LeakingArgs_sat hS (hS.rdS 1 rfl) (toP_fits hf0)) fun v14 w a hp15 ha => ?_)
 obtain ⟨o2, rfl, hS⟩ := hp15
 refine jX [(6, 39, .tuple #[.slice o2.A o2.n o2.c, .bool ((leakAP (toP l0) f low high fuel).2)]), (7, 46, .slice o2.A o2.n o2.c), (8, 47, .bool ((leakAP (toP l0) f low high fuel).2)), (9, 15, .slice o2.A o2.n o2.c), (10, 16, .bool ((leakAP (toP l0) f low high fuel).2))] ha fun a ha => ?_
 refine jK ?_
 replace ha := ha.as [(1, iv f), (2, iv low), (3, iv high), (4, iv fuel), (5, ptr b1 0), (10, .bool false), (12, .slice o1.A o1.n o1.c), (13, .bool ((leakAP (toP l0) f low high fuel).2)), (14, ptr b12 0), (15, .slice o2.A o2.n o2.c), (16, .bool ((leakAP (toP l0) f low high fuel).2))] rfl
 refine jQ (wp_seq (wp_seq (jY [0, 1, 2, 3, 4, 5, 6, 7, 8] (jX [(0, 48, .slice o2.A o2.n o2.c), (1, 49, .slice o1.A o1.n o1.c)] ha fun a ha => ?_))))
 refine jV (qH 50 (vs := [.slice o2.A o2.n o2.c, .slice o1.A o1.n o1.c]) ha (eqIntS_sat hS (hS.rdRow (s := o2) 0 rfl) (hS.rdRow (s := o1) 3 rfl)) fun v16 w a hp17 ha => ?_)
 obtain ⟨rfl, hS⟩ := hp17
 refine jX [(3, 51, .bool false), (4, 52, .bool false), (5, 53, .bool ((leakAP (toP l0) f low high fuel).2)), (6, 54, .bool ((leakAP (toP l0) f low high fuel).2))] ha fun a ha => ?_
 refine yZ (.bool false) ha ((qG (v := .bool (!(((leakAP (toP l0) f low high fuel).2) == ((leakAP (toP l0) f low high fuel).2)))) ha (AtG.here (gd := 52) ⟨(by kernel_rfl : ((qW Try.f11 8)[7]?).map spec = some ((Op.binOp BinOp.neq 4 (Operand.tmp 53) (Operand.tmp 54) 4), some 55, 4, some (4, false))), by kernel_rfl⟩ ha rfl) (by kernel_rfl) (fun _ => by kernel_rfl)).as (by simp)) fun a ha => ?_
 refine jX [(8, 56, .bool false)] ha fun a ha => ?_
 refine jK (jQ ?_)
 refine jG ha rfl rfl ?_
 refine wp_skip (jQ (wp_seq (wp_seq (xU 5 5 (hS.pickN 6 [1, 5] (by decide) rfl) hS fun w hS => ?_))))
 refine yK 0 57 ha (hS.pickN 6 [1, 5] (by decide) rfl) (jJ (jJ (jZ))) (fun _ hw => hw.blk 0 rfl) fun a ha => ?_
 refine yK 1 58 ha (hS.pickN 6 [1, 5] (by decide) rfl) (jJ (jJ (jZ))) (fun _ hw => hw.blk 1 rfl) fun a ha => ?_
 refine qZ 2 (qH 59 (vs := [.agg #[.slice s0.A s0.n s0.c]]) ha (toProgram_sat hS (hr0.sat hS) hf0) fun v18 w a hp19 ha => ?_)
 obtain ⟨sp3, rfl, hS⟩ := hp19
 refine ⟨.inr (hS.pickN 7 [2, 6] (by decide) rfl), ?_⟩
 refine qZ 3 (qH 60 (vs := [.agg #[.slice sp2.A sp2.n sp2.c], .agg #[.slice sp3.A sp3.n sp3.c]]) ha (eqP_sat hS (hS.rdS 3 rfl) (hS.rdS 0 rfl) (toP_fits hf0)) fun v20 w a hp21 ha => ?_)
 obtain ⟨rfl, hS⟩ := hp21
 refine ⟨.inr (hS.pickN 7 [2, 6] (by decide) rfl), ?_⟩
 refine jU (k := 0) [(4, 61, .bool false)] ha (.inr (hS.pickN 7 [2, 6] (by decide) rfl)) (jJ (jJ (jZ))) fun a ha => ?_
 refine xW (jQ ?_)
 refine jG ha rfl rfl ?_
 refine wp_skip (jQ (wp_seq (jY [0] (jX [(0, 17, iv 1)] ha fun a ha => ?_))))
 refine jK (jQ (wp_seq (jY [0, 1, 2, 3] (zG 62 ha (hS.blk 2 rfl) fun a ha => ?_))))
 refine jX [(1, 63, iv 1)] ha fun a ha => ?_
 replace hS : Sat w0 w ((prg w0.heap.size sp2 (toP l0)) :: (prg w0.heap.size sp3 (toP l0)) :: (SX.row (.slice o2.A o2.n o2.c) 3 1 (SX.encI ((leakAP (toP l0) f low high fuel).1))) :: (SX.blk b12 [.slice sp2.A sp2.n sp2.c] 30) :: (SX.row (.slice o1.A o1.n o1.c) 3 1 (SX.encI ((leakAP (toP l0) f low high fuel).1))) :: (prg w0.heap.size sp1 (toP l0)) :: (SX.blk b1 [.slice s0.A s0.n s0.c] 24) :: []) := hS.pickN 7 [3, 0, 1, 2, 4, 5, 6] (by decide) rfl
 refine jV (qH 64 (vs := [.agg #[.slice sp2.A sp2.n sp2.c], iv 1]) ha (markProgram_sat hS (toP_fits hf0) (by omega) (by omega)) fun v22 w a hp23 ha => ?_)
 obtain ⟨rfl, hS⟩ := hp23
 refine jX [(3, 17, iv (1 + 3 * (tot (toP l0) : Int)))] ha fun a ha => ?_
 refine jK ?_
 replace ha := ha.as [(1, iv f), (2, iv low), (3, iv high), (4, iv fuel), (5, ptr b1 0), (10, .bool false), (12, .slice o1.A o1.n o1.c), (13, .bool ((leakAP (toP l0) f low high fuel).2)), (15, .slice o2.A o2.n o2.c), (16, .bool ((leakAP (toP l0) f low high fuel).2)), (17, iv (1 + 3 * (tot (toP l0) : Int)))] rfl
 refine jQ (wp_seq (wp_seq (jY [0, 1, 2, 3, 4, 5, 6, 7, 8, 9, 10, 11, 12] (jX [(0, 65, iv (1 + 3 * (tot (toP l0) : Int)))] ha fun a ha => ?_))))
 refine yZ (.bool false) ha ((qG (v := .bool (decide (1 + 3 * (tot (toP l0) : Int) < 0))) ha (yU (op := (Op.binOp BinOp.lss 3 (Operand.tmp 65) (Operand.const (Value.int IntKind.i64 0)) 3)) (d := some 66) (ty := 4)) (by kernel_rfl) (fun _ => by kernel_rfl)).as (by rw [decide_eq_false (by omega)])) fun a ha => ?_
 refine jX [(2, 67, .bool false), (3, 68, .slice o2.A o2.n o2.c), (4, 69, .slice o1.A o1.n o1.c)] ha fun a ha => ?_
 refine jV (qH 70 (vs := [.slice o2.A o2.n o2.c, .slice o1.A o1.n o1.c]) ha (eqIntS_sat hS (hS.rdRow (s := o2) 2 rfl) (hS.rdRow (s := o1) 4 rfl)) fun v24 w a hp25 ha => ?_)
 obtain ⟨rfl, hS⟩ := hp25
 refine jX [(6, 71, .bool false), (7, 72, .bool false), (8, 73, .bool false), (9, 74, .bool ((leakAP (toP l0) f low high fuel).2)), (10, 75, .bool ((leakAP (toP l0) f low high fuel).2))] ha fun a ha => ?_
 refine yZ (.bool false) ha ((qG (v := .bool (!(((leakAP (toP l0) f low high fuel).2) == ((leakAP (toP l0) f low high fuel).2)))) ha (AtG.here (gd := 73) ⟨(by kernel_rfl : ((qW Try.f11 14)[11]?).map spec = some ((Op.binOp BinOp.neq 4 (Operand.tmp 74) (Operand.tmp 75) 4), some 76, 4, some (8, false))), by kernel_rfl⟩ ha rfl) (by kernel_rfl) (fun _ => by kernel_rfl)).as (by simp)) fun a ha => ?_
 refine jX [(12, 77, .bool false)] ha fun a ha => ?_
 refine jK (jQ ?_)
 refine jG ha rfl rfl ?_
 refine wp_skip (jQ (wp_seq (jY [0] (jX [(0, 18, iv 1)] ha fun a ha => ?_))))
 refine jK (jQ (wp_seq (jY [0, 1, 2, 3] (jX [(0, 78, .slice o2.A o2.n o2.c), (1, 79, iv 1)] ha fun a ha => ?_))))
 replace hS : Sat w0 w ((SX.row (.slice o2.A o2.n o2.c) 3 1 (SX.encI ((leakAP (toP l0) f low high fuel).1))) :: (prg w0.heap.size sp2 (mkSS 1 (toP l0))) :: (prg w0.heap.size sp3 (toP l0)) :: (SX.blk b12 [.slice sp2.A sp2.n sp2.c] 30) :: (SX.row (.slice o1.A o1.n o1.c) 3 1 (SX.encI ((leakAP (toP l0) f low high fuel).1))) :: (prg w0.heap.size sp1 (toP l0)) :: (SX.blk b1 [.slice s0.A s0.n s0.c] 24) :: []) := hS.pickN 7 [2, 0, 1, 3, 4, 5, 6] (by decide) rfl
 refine jV (qH 80 (vs := [.slice o2.A o2.n o2.c, iv 1]) ha (markG_sat hS (by omega) (by omega) (Nat.le_trans (leakAP_len ..) (by decide))) fun v26 w a hp27 ha => ?_)
 obtain ⟨rfl, hS⟩ := hp27
 refine jX [(3, 18, iv (1 + (((leakAP (toP l0) f low high fuel).1).length : Int)))] ha fun a ha => ?_
 refine jK ?_
 replace ha := ha.as [(1, iv f), (2, iv low), (3, iv high), (4, iv fuel), (5, ptr b1 0), (10, .bool false), (12, .slice o1.A o1.n o1.c), (13, .bool ((leakAP (toP l0) f low high fuel).2)), (15, .slice o2.A o2.n o2.c), (18, iv (1 + (((leakAP (toP l0) f low high fuel).1).length : Int)))] rfl
 refine jQ (wp_seq (jY [0] (jX [(0, 19, iv 1)] ha fun a ha => ?_)))
 refine jK (jQ (wp_seq (jY [0, 1, 2, 3] (jX [(0, 81, .slice o2.A o2.n o2.c), (1, 82, iv 1)] ha fun a ha => ?_))))
 refine jV (qH 83 (vs := [.slice o2.A o2.n o2.c, iv 1]) ha (heldI_sat hS (hS.rdRow (s := o2) 0 rfl) (Nat.le_trans (leakAP_len ..) (by decide))) fun v28 w a hp29 ha => ?_)
 obtain ⟨rfl, hS⟩ := hp29
 refine jX [(3, 19, iv (1 + (((leakAP (toP l0) f low high fuel).1).length : Int)))] ha fun a ha => ?_
 refine jK (jQ (wp_seq (wp_seq (jY [0, 1] (jX [(0, 84, iv (1 + (((leakAP (toP l0) f low high fuel).1).length : Int)))] ha fun a ha => ?_)))))
 refine yZ (.bool false) ha ((qG (v := .bool (decide (1 + (((leakAP (toP l0) f low high fuel).1).length : Int) < 0))) ha (yU (op := (Op.binOp BinOp.lss 3 (Operand.tmp 84) (Operand.const (Value.int IntKind.i64 0)) 3)) (d := some 85) (ty := 4)) (by kernel_rfl) (fun _ => by kernel_rfl)).as (by rw [decide_eq_false (by omega)])) fun a ha => ?_
 refine jK (jQ ?_)
 refine jG ha rfl rfl ?_
 refine wp_skip (jQ (wp_seq (wp_seq (jY [0, 1, 2] (jX [(0, 86, iv (1 + (((leakAP (toP l0) f low high fuel).1).length : Int))), (1, 87, iv (1 + (((leakAP (toP l0) f low high fuel).1).length : Int)))] ha fun a ha => ?_)))))
 refine yZ (.bool false) ha ((qG (v := .bool (!(decide (1 + (((leakAP (toP l0) f low high fuel).1).length : Int) = 1 + (((leakAP (toP l0) f low high fuel).1).length : Int))))) ha (yU (op := (Op.binOp BinOp.neq 3 (Operand.tmp 86) (Operand.tmp 87) 3)) (d := some 88) (ty := 4)) (by kernel_rfl) (fun _ => by kernel_rfl)).as (by simp)) fun a ha => ?_
 refine jK (jQ ?_)
 refine jG ha rfl rfl ?_
 refine wp_skip (jQ (wp_seq (jY [0, 1, 2, 3, 4, 5, 6, 7, 8, 9, 10, 11] (zG 90 ha (hS.blk 6 rfl) fun a ha => ?_))))
 refine jV (qH 91 (vs := [.agg #[.slice s0.A s0.n s0.c]]) ha (toProgram_sat hS (hr0.sat hS) hf0) fun v30 w a hp31 ha => ?_)
 obtain ⟨sp4, rfl, hS⟩ := hp31
 refine jX [(2, 92, iv f), (3, 93, iv low), (4, 94, iv high), (5, 95, iv fuel)] ha fun a ha => ?_
 refine jV (qH 96 (vs := [.agg #[.slice sp4.A sp4.n sp4.c], iv f, iv low, iv high, iv fuel]) ha (impl_LeakingArgs_sat hS (hS.rdS 0 rfl) (toP_fits hf0)) fun v32 w a hp33 ha => ?_)
 obtain ⟨o3, rfl, hS⟩ := hp33
 refine jX [(7, 89, .tuple #[.slice o3.A o3.n o3.c, .bool ((leakAP (toP l0) f low high fuel).2)]), (8, 97, .slice o3.A o3.n o3.c), (9, 98, .bool ((leakAP (toP l0) f low high fuel).2)), (10, 20, .slice o3.A o3.n o3.c), (11, 21, .bool ((leakAP (toP l0) f low high fuel).2))] ha fun a ha => ?_
 refine jK ?_
 replace ha := ha.as [(10, .bool false), (12, .slice o1.A o1.n o1.c), (13, .bool ((leakAP (toP l0) f low high fuel).2)), (15, .slice o2.A o2.n o2.c), (18, iv (1 + (((leakAP (toP l0) f low high fuel).1).length : Int))), (19, iv (1 + (((leakAP (toP l0) f low high fuel).1).length : Int))), (20, .slice o3.A o3.n o3.c), (21, .bool ((leakAP (toP l0) f low high fuel).2))] rfl
 refine jQ (wp_seq (wp_seq (jY [0, 1, 2, 3, 4, 5, 6, 7, 8] (jX [(0, 99, .slice o3.A o3.n o3.c), (1, 100, .slice o1.A o1.n o1.c)] ha fun a ha => ?_))))
 refine jV (qH 101 (vs := [.slice o3.A o3.n o3.c, .slice o1.A o1.n o1.c]) ha (eqIntS_sat hS (hS.rdRow (s := o3) 0 rfl) (hS.rdRow (s := o1) 6 rfl)) fun v34 w a hp35 ha => ?_)
 obtain ⟨rfl, hS⟩ := hp35
 refine jX [(3, 102, .bool false), (4, 103, .bool false), (5, 104, .bool ((leakAP (toP l0) f low high fuel).2)), (6, 105, .bool ((leakAP (toP l0) f low high fuel).2))] ha fun a ha => ?_
 refine yZ (.bool false) ha ((qG (v := .bool (!(((leakAP (toP l0) f low high fuel).2) == ((leakAP (toP l0) f low high fuel).2)))) ha (AtG.here (gd := 103) ⟨(by kernel_rfl : ((qW Try.f11 25)[7]?).map spec = some ((Op.binOp BinOp.neq 4 (Operand.tmp 104) (Operand.tmp 105) 4), some 106, 4, some (4, false))), by kernel_rfl⟩ ha rfl) (by kernel_rfl) (fun _ => by kernel_rfl)).as (by simp)) fun a ha => ?_
 refine jX [(8, 107, .bool false)] ha fun a ha => ?_
 refine jK (jQ ?_)
 refine jG ha rfl rfl ?_
 refine wp_skip (jQ (wp_seq (jY [0] (jX [(0, 19, iv 1)] ha fun a ha => ?_))))
 refine jK (jQ (wp_seq (jY [0, 1, 2, 3] (jX [(0, 108, .slice o2.A o2.n o2.c), (1, 109, iv 1)] ha fun a ha => ?_))))
 refine jV (qH 110 (vs := [.slice o2.A o2.n o2.c, iv 1]) ha (heldI_sat hS (hS.rdRow (s := o2) 2 rfl) (Nat.le_trans (leakAP_len ..) (by decide))) fun v36 w a hp37 ha => ?_)
 obtain ⟨rfl, hS⟩ := hp37
 refine jX [(3, 19, iv (1 + (((leakAP (toP l0) f low high fuel).1).length : Int)))] ha fun a ha => ?_
 refine jK ?_
 replace ha := ha.as [(10, .bool false), (18, iv (1 + (((leakAP (toP l0) f low high fuel).1).length : Int))), (19, iv (1 + (((leakAP (toP l0) f low high fuel).1).length : Int)))] rfl
 refine jQ (wp_seq (wp_seq (jY [0, 1] (jX [(0, 111, iv (1 + (((leakAP (toP l0) f low high fuel).1).length : Int)))] ha fun a ha => ?_))))
 refine yZ (.bool false) ha ((qG (v := .bool (decide (1 + (((leakAP (toP l0) f low high fuel).1).length : Int) < 0))) ha (yU (op := (Op.binOp BinOp.lss 3 (Operand.tmp 111) (Operand.const (Value.int IntKind.i64 0)) 3)) (d := some 112) (ty := 4)) (by kernel_rfl) (fun _ => by kernel_rfl)).as (by rw [decide_eq_false (by omega)])) fun a ha => ?_
 refine jK (jQ ?_)
 refine jG ha rfl rfl ?_
 refine wp_skip (jQ (wp_seq (wp_seq (jY [0, 1, 2] (jX [(0, 113, iv (1 + (((leakAP (toP l0) f low high fuel).1).length : Int))), (1, 114, iv (1 + (((leakAP (toP l0) f low high fuel).1).length : Int)))] ha fun a ha => ?_)))))
 refine yZ (.bool false) ha ((qG (v := .bool (!(decide (1 + (((leakAP (toP l0) f low high fuel).1).length : Int) = 1 + (((leakAP (toP l0) f low high fuel).1).length : Int))))) ha (yU (op := (Op.binOp BinOp.neq 3 (Operand.tmp 113) (Operand.tmp 114) 3)) (d := some 115) (ty := 4)) (by kernel_rfl) (fun _ => by kernel_rfl)).as (by simp)) fun a ha => ?_
 refine jK (jQ ?_)
 refine jG ha rfl rfl ?_
 refine wp_skip (jQ (wp_seq (jY [0] (jX [(0, 10, .bool true)] ha fun a ha => ?_))))
 refine jK (jQ (wp_ret (qU ha (by kernel_rfl) (xK (t := 10) ha rfl) ?_)))
 exact ⟨rfl, hS.below⟩
end Go.Proofs.Ytggahaddkoifkaa.G
end
