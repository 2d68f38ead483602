/- What the claim FnExactMendEntries rests on, part 19 of 23; the last part proves it: for every input the law answers true, and its arguments read behind the call as before it. No condition. -/
import Derived.Shelf.Slices.Delete
import Derived.Shelf.Slices.Clone
import Derived.Lib.OwnBridge
import Derived.KernelRfl
import Derived.WalkKit
import Derived.Test.YtbgfiiehjaghiaaQMendEntries18
namespace Go.Proofs.YtbgfiiehjaghiaaW.PrintLast
end Go.Proofs.YtbgfiiehjaghiaaW.PrintLast
namespace Go.Proofs.YtbgfiiehjaghiaaW.PrintMore
end Go.Proofs.YtbgfiiehjaghiaaW.PrintMore
set_option linter.unusedSimpArgs false
set_option linter.unusedVariables false
set_option maxRecDepth 20000
set_option maxHeartbeats 1000000
namespace Go.Proofs.Ytbgfiiehjaghiaa.G
open Go.RowKit Go.Shelf Go.Lib Go.Proofs.YtbgfiiehjaghiaaW.PrintWords Go.Proofs.YtbgfiiehjaghiaaW.PrintLast Go.Proofs.YtbgfiiehjaghiaaW.PrintMore Go.Proofs.Ytbgfiiehjaghiaa.SX
def lDel_ren : Go.Shelf.Ren := ⟨fun | 23 => 121 | n => n, fun | 22 => 37 | 3 => 3 | 4 => 4 | 0 => 0 | n => n, fun | n => n⟩
theorem lDel : Lays2.n23 Try.prog lDel_ren where
 mixed := by kernel_rfl
 f23 := Try.func121.trans (congrArg some (by kernel_rfl))
 t0 := Try.underlying0
 a0 := Try.isAgg0
 z0 := Try.sizeOf0
 v0 := Try.zeroValue0
 t3 := Try.underlying3
 a3 := Try.isAgg3
 z3 := Try.sizeOf3
 v3 := Try.zeroValue3
 t4 := Try.underlying4
 a4 := Try.isAgg4
 z4 := Try.sizeOf4
 v4 := Try.zeroValue4
 t22 := Try.underlying37
 a22 := Try.isAgg37
 z22 := Try.sizeOf37
 v22 := Try.zeroValue37
 i3 := by kernel_rfl
def lClo_ren : Go.Shelf.Ren := ⟨fun | 15 => 116 | n => n, fun | 22 => 37 | 3 => 3 | 4 => 4 | n => n, fun | n => n⟩
theorem lClo : Lays2.n15 Try.prog lClo_ren where
 mixed := by kernel_rfl
 f15 := Try.func116.trans (congrArg some (by kernel_rfl))
 t3 := Try.underlying3
 a3 := Try.isAgg3
 z3 := Try.sizeOf3
 v3 := Try.zeroValue3
 t4 := Try.underlying4
 a4 := Try.isAgg4
 z4 := Try.sizeOf4
 v4 := Try.zeroValue4
 t22 := Try.underlying37
 a22 := Try.isAgg37
 z22 := Try.sizeOf37
 v22 := Try.zeroValue37
 i3 := by kernel_rfl
theorem clone_empty (ad : Addr) (c0 : Nat) (w : World) :
  Calls Try.prog 116 #[.slice (some ad) 0 c0] w fun e w' => ∃ v0_ : Value, e = .returned (v0_) ∧ Kd.R (Kd.int .i64) 3 w' w.heap.size (fun _ => True) v0_ [] ∧ Below w.heap.size w w' := by
 obtain ⟨i0, hi, hz0, hz1, hz2⟩ := info_parts (show (Try.prog.info? 3).map (fun i => (i.zero, i.size, i.bytes)) = some (some (.int .i64 0), 1, 8) by kernel_rfl)
 have q : ∀ (w : World) (a : Option Addr) (n c n' c' : Nat), (binOp .eql 37 (.slice a n c) (.slice none n' c')).run Try.prog w = .ok (.bool a.isNone) w := fun w a n c n' c' => Lib.run_eql_slice_nil w _ _ a n c n' c' Try.underlying37
 go_enter Try.func116, Try.ntmps116
 go_wp2_with (at_builtin; refine wpList_append_own _ rfl _ _ 37 rfl w.heap.size 3 i0 (.int .i64 0) 1 8 Try.underlying37 hi hz0 hz1 hz2 rfl (by decide) _ _ _ rfl (World.ownsRow_made w #[] 0 (Nat.le_refl _) (Nat.zero_le _) rfl) ad 0 c0 [] rfl ?qc1 ?qc2 ?qc3 ?qc4 ?qc5 ?qc6 ?_)
 case qc1 => simp
 case qc2 => intro j u hj; simp at hj
 case qc3 => intro u hu; cases hu
 case qc4 => simp
 case qc5 => simp
 case qc6 => simp
 intro v' w1 hown hgrow hnil
 go_wp2
 go_ret
 refine ⟨v', rfl, Kd.R_of_own (xs := []) (enc := Value.int .i64) (by simpa [encs] using hown) (fun _ _ => trivial), ?_⟩
 exact ((Below.refl _ w).alloc (Nat.le_refl _) _).grown hgrow (by simp) (by intro k hk; simp [Value.ownBlock] at hk; omega)
theorem clone_kd (s : Sl) (l : List Int) (w : World) (hr : RdI w s l) (hlen : l.length ≤ 1000000) :
    Calls Try.prog 116 #[.slice s.A s.n s.c] w fun e w' => ∃ v0_ : Value, e = .returned v0_ ∧ Kd.R (Kd.int .i64) 3 w' w.heap.size (fun _ => True) v0_ l ∧ Below w.heap.size w w' := by
  obtain ⟨A, n, c⟩ := s
  have hn : n = l.length := hr.len
  subst hn
  by_cases hl : l = []
  · subst hl
    cases A with
    | none => exact (Any.slices_Clone_int_nil lClo 0 c w).mono fun e w' ⟨h1, h2⟩ => ⟨_, h1, by subst h2; exact Kd.R_nil _ _ _ _ _, by subst h2; exact Below.refl _ _⟩
    | some ad => exact clone_empty ad c w
  · have hp : 0 < l.length := List.length_pos_iff.2 hl
    have hA := (hr.at_ hp).1
    dsimp only at hA
    rw [hA];refine (Any.slices_Clone_int lClo _ _ l.length c l w (Nat.le_refl _) (by omega) (fun j hj => (hr.at_ hj).2)).mono ?_
    rintro e w' ⟨v', rfl, hown, _, hb⟩
    rw [List.take_length] at hown;exact ⟨v', rfl, Kd.R_of_own hown (fun _ _ => trivial), hb⟩
section
variable {w0 w : World} {Rs : List Asn} {s : Sl} {l : List Int}
theorem clone_sat (hS : Sat w0 w Rs) (hr : RdI w s l) (hlen : l.length ≤ 1000000) :
  Calls Try.prog 116 #[.slice s.A s.n s.c] w (Ret fun r w' => ∃ s' : Sl, r = .slice s'.A s'.n s'.c ∧ Sat w0 w' (SX.row (.slice s'.A s'.n s'.c) 3 1 (SX.encI l) :: Rs)) := by
 refine (clone_kd s l w hr hlen).mono ?_
 rintro e w' ⟨v, rfl, hR, hb⟩
 have ho := Kd.own_of_R hR
 obtain ⟨s', rfl, _⟩ := ownsRow_sl ho
 exact ⟨s', rfl, hS.made hb ho⟩
theorem delete_sat (hS : Sat w0 w (SX.row (.slice s.A s.n s.c) 3 1 (SX.encI l) :: Rs)) (i : Nat) (hi : i < l.length) (hlen : l.length ≤ 1000000) :
    Calls Try.prog 121 #[.slice s.A s.n s.c, .int .i64 (i : Int), .int .i64 ((i : Int) + 1)] w (Ret fun r w' => ∃ s' : Sl, r = .slice s'.A s'.n s'.c ∧ Sat w0 w' (SX.row (.slice s'.A s'.n s'.c) 3 1 (SX.encI (l.eraseIdx i)) :: Rs)) := by
  obtain ⟨n, hown⟩ := hS.row 0 rfl
  have hne : (.slice s.A s.n s.c : Value) ≠ .slice none 0 0 := by
    intro e
    rcases hown.2 with ⟨_, h0⟩ | ⟨g, cap, cur, e', _⟩
    · have := hown.1
      simp [SX.encI] at this
      omega
    · rw [e] at e'
      cases e'
  obtain ⟨g, cap, e0, _, hg, hcap, hmax, hl, hH⟩ := holds_of_ownsRow hown hne
  subst hl
  obtain ⟨A, sn, sc⟩ := s
  simp only [Value.slice.injEq] at e0
  obtain ⟨rfl, rfl, rfl⟩ := e0
  have h := Any.slices_Delete_int lDel g 0 sc i (i + 1) l w hH hcap (by simp only [maxLen] at hmax; omega) (by omega) (by omega)
  refine Calls.mono h ?_
  rintro e w' ⟨rfl, q, rfl⟩
  have he : (l.take i ++ l.drop (i + 1)) = l.eraseIdx i := (List.eraseIdx_eq_take_drop_succ l i).symm
  have hk : (l.eraseIdx i).length = l.length - 1 := by rw [List.length_eraseIdx]; simp [hi]
  have hz : (l.take i ++ l.drop (i + 1) ++ List.replicate (i + 1 - i) (0 : Int)).length = l.length := by
    rw [List.length_append, he, hk]
    simp
    omega
  have ho' := ownsRow_putRow (q := q) (k := l.length - 1) hown hz (Nat.sub_le _ _)
  refine ⟨⟨some ⟨g, 0, none⟩, l.length - 1, sc⟩, by simp, ?_⟩
  refine hS.upd (i := 0) (R := SX.row (.slice (some ⟨g, 0, none⟩) l.length sc) 3 1 (SX.encI l)) rfl (SX.row (.slice (some ⟨g, 0, none⟩) (l.length - 1) sc) 3 1 (SX.encI (l.eraseIdx i))) rfl rfl rfl (by simp [Go.Sort.putRow, Go.Sort.mapBlock, Go.Sort.ahead]) fun F hF => ⟨F, ⟨fun k => ?_, l.length - 1, ?_⟩, fun _ hb => .inl hb, fun b _ hF' => ?_⟩
  · rw [hF.1 k]
    simp [Value.ownBlock]
  · have e2 : SX.encI (l.eraseIdx i) = ((l.take i ++ l.drop (i + 1) ++ List.replicate (i + 1 - i) (0 : Int)).take (l.length - 1)).map (Value.int .i64) := by
      rw [he, ← hk, List.take_left']
      · rfl
      · rfl
    rw [e2];exact ho'
  · have hgb : g ≠ b := fun e => hF' ((hF.1 b).2 (by simp [Value.ownBlock, e]))
    simp [Go.Sort.putRow, Go.Sort.mapBlock, Go.Sort.ahead, Array.getElem?_modify, hgb]
end
def entryB (n : Int) : Bool := decide (-32767 ≤ n) && decide (n ≤ 32767)
def badE (l : List Int) : Bool := l.any fun n => !(entryB n)
def entriesB (l : List Int) : Bool := decide (l.length ≤ 60) && !(badE l)
def bkStep (o : List Int) (n : Int) : List Int := if 0 < n then o.erase (max n (-n)) ++ [n] else o.erase (max n (-n))
def bkBad (o : List Int) (n : Int) : Bool := decide (n ≠ 0) && (decide (0 < n) == o.contains (max n (-n)))
def bkOpens : List Int → List Int → List (List Int)
 | _, [] => []
 | o, n :: l => bkStep o n :: bkOpens (bkStep o n) l
def bkFaults : Int → List Int → List Int → List Int
 | _, _, [] => []
 | i, o, n :: l => (if bkBad o n then [i] else []) ++ bkFaults (i + 1) (bkStep o n) l
def bkLeft (l : List Int) : List Int := l.foldl bkStep []
theorem bkOpens_last : ∀ (l o : List Int), (o :: bkOpens o l).getLast? = some (l.foldl bkStep o)
 | [], o => rfl
 | n :: l, o => by
  rw [bkOpens, List.getLast?_cons_cons]
  exact bkOpens_last l (bkStep o n)
theorem bkOpens_len : ∀ (l o : List Int), (bkOpens o l).length = l.length
 | [], _ => rfl
 | n :: l, o => congrArg (· + 1) (bkOpens_len l _)
theorem bkLeft_at {l : List Int} {n : Nat} (h : n + 1 = l.length) : (bkOpens [] l)[n]? = some (bkLeft l) := by
 have h1 := bkOpens_last l []
 rw [List.getLast?_eq_getElem?] at h1
 simp only [List.length_cons, bkOpens_len] at h1
 rw [show l.length + 1 - 1 = n + 1 by omega] at h1
 unfold bkLeft; simpa using h1
theorem bkLeft_nil {l : List Int} (h : l.length = 0) : bkLeft l = [] := by rw [List.length_eq_zero_iff.1 h]; rfl
theorem bkStep_zero {o : List Int} (h : ∀ x ∈ o, 0 < x) : bkStep o 0 = o := by
 unfold bkStep
 rw [if_neg (by omega)]
 exact List.erase_of_not_mem fun hm => by have := h _ hm; omega
theorem bkStep_pos {o : List Int} {n : Int} (h : ∀ x ∈ o, 0 < x) : ∀ x ∈ bkStep o n, 0 < x := by
  intro x hx
  unfold bkStep at hx
  split at hx
  · rcases List.mem_append.1 hx with hx | hx
    · exact h x (List.mem_of_mem_erase hx)
    · rw [List.mem_singleton.1 hx]; assumption
  · exact h x (List.mem_of_mem_erase hx)
theorem bkStep_nodup {o : List Int} {n : Int} (h : o.Nodup) : (bkStep o n).Nodup := by
  unfold bkStep
  split
  · rename_i hn
    have hm : max n (-n) = n := by omega
    rw [hm];refine List.nodup_append.2 ⟨h.erase n, List.nodup_cons.2 ⟨by simp, List.nodup_nil⟩, ?_⟩;intro a ha b hb e;rw [List.mem_singleton.1 hb] at e;subst e;exact h.not_mem_erase ha
  · exact h.erase _
theorem bkStep_eq1 {o : List Int} {n : Int} (hn : n > 0) (h : o.Nodup) : o.filter (fun y => y != max n (-n)) ++ [max n (-n)] = bkStep o n := by
 unfold bkStep
 have hm : max n (-n) = n := by omega
 rw [if_pos hn, h.erase_eq_filter, hm]
theorem bkStep_eq2 {o : List Int} {n : Int} (hn : ¬ n > 0) (h : o.Nodup) : o.filter (fun y => y != max n (-n)) = bkStep o n := by
 unfold bkStep
 rw [if_neg hn, h.erase_eq_filter]
theorem bkStep_length {o : List Int} {n : Int} {i : Nat} (h : o.length ≤ i) : (bkStep o n).length ≤ i + 1 := by
 unfold bkStep
 have := List.length_erase_le (a := max n (-n)) (l := o)
 split
 · rw [List.length_append]; simp; omega
 · omega
theorem bkFold_length : ∀ (l o : List Int) {i : Nat}, o.length ≤ i → (l.foldl bkStep o).length ≤ i + l.length
 | [], _, _, h => h
 | n :: l, o, i, h => by
  have := bkFold_length l (bkStep o n) (bkStep_length h)
  simp only [List.foldl_cons, List.length_cons] at *
  omega
theorem bkLeft_len (l : List Int) : (bkLeft l).length ≤ l.length := by
 have := bkFold_length l [] (i := 0) (Nat.le_refl _)
 rw [Nat.zero_add] at this
 exact this
def idxI (l : List Int) (x : Int) : Int := if x ∈ l then (l.idxOf x : Int) else -1
theorem idxI_mem {l : List Int} {x : Int} : idxI l x ≥ 0 ↔ x ∈ l := by unfold idxI; split <;> simp_all <;> omega
theorem idxI_le (l : List Int) (x : Int) : -1 ≤ idxI l x ∧ idxI l x ≤ l.length := by
  unfold idxI
  split
  · rename_i h
    have := List.idxOf_lt_length_of_mem h
    omega
  · omega
theorem idxI_no {l : List Int} {x : Int} (h : x ∉ l) : idxI l x = -1 := if_neg h
theorem idxI_yes {l : List Int} {x : Int} {i : Nat} (hi : l[i]? = some x) (hn : x ∉ l.take i) : idxI l x = (i : Int) := by
 have hlt := (List.getElem?_eq_some_iff.1 hi).1
 have hx := (List.getElem?_eq_some_iff.1 hi).2
 rw [idxI, if_pos (List.mem_of_getElem? hi)]
 congr 1
 have h1 : l = l.take i ++ l[i] :: l.drop (i + 1) := by
  rw [List.getElem_cons_drop hlt, List.take_append_drop]
 have h2 : (l.take i ++ l[i] :: l.drop (i + 1)).idxOf x = i := by
  rw [List.idxOf_append, if_neg hn, hx, List.idxOf_cons_self, List.length_take]
  omega
 rw [← h1] at h2
 exact h2
theorem bkT_not {l : List Int} {x y : Int} {i : Nat} (hi : l[i]? = some y) (hn : x ∉ l.take i) (h : ¬ x = y) : x ∉ l.take (i + 1) := by
 rw [List.take_add_one, hi]
 simp only [Option.toList, List.mem_append, List.mem_singleton]
 rintro (h1 | h1)
 · exact hn h1
 · exact h h1
theorem bkT_all {l : List Int} {x : Int} {i : Nat} (hi : l.length ≤ i) (hn : x ∉ l.take i) : x ∉ l := by rwa [List.take_of_length_le hi] at hn
theorem filt_next {l : List Int} {x y : Int} {i : Nat} (hi : l[i]? = some y) : (l.take (i + 1)).filter (fun z => z != x) = (l.take i).filter (fun z => z != x) ++ (if y = x then [] else [y]) := by
 rw [List.take_add_one, hi, List.filter_append]
 by_cases h : y = x
 · rw [if_pos h]; simp [h]
 · rw [if_neg h]; simp [h]
theorem filt_len {l : List Int} {x : Int} {i : Nat} : ((l.take i).filter (fun z => z != x)).length ≤ i := Nat.le_trans (List.length_filter_le _ _) (by rw [List.length_take]; omega)
theorem badE_yes {l : List Int} {n : Nat} {x : Int} (hx : l[n]? = some x) (h : entryB x = false) : badE l = true := by
 unfold badE; rw [List.any_eq_true]; exact ⟨x, List.mem_of_getElem? hx, by rw [h]; rfl⟩
theorem badE_no {l : List Int} {n : Nat} (h : ∀ (j : Nat) (x : Int), j < n → l[j]? = some x → entryB x = true) (hn : l.length ≤ n) : badE l = false := by
 unfold badE; rw [List.any_eq_false]; intro x hx
 obtain ⟨j, hj⟩ := List.getElem?_of_mem hx
 rw [h j x (by have := (List.getElem?_eq_some_iff.1 hj).1; omega) hj]; decide
theorem allE {l : List Int} {n : Nat} {y : Int} (hy : l[n]? = some y) (hall : ∀ (j : Nat) (x : Int), j < n → l[j]? = some x → entryB x = true) (h : entryB y = true) : ∀ (j : Nat) (x : Int), j < n + 1 → l[j]? = some x → entryB x = true := by
 intro j x hj hx
 by_cases he : j = n
 · subst he; rw [hy] at hx; cases hx; exact h
 · exact hall j x (by omega) hx
theorem entries_at {l : List Int} (h : entriesB l = true) : l.length ≤ 60 ∧ ∀ x ∈ l, -32767 ≤ x ∧ x ≤ 32767 := by
 simp only [entriesB, badE, Bool.and_eq_true, decide_eq_true_eq, Bool.not_eq_true', List.any_eq_false] at h
 refine ⟨h.1, fun x hx => ?_⟩
 have := h.2 x hx
 simpa [entryB] using this
end Go.Proofs.Ytbgfiiehjaghiaa.G
namespace Go.Proofs.Ytbgfiiehjaghiaa.G
open Go.RowKit Go.Proofs.Ytbgfiiehjaghiaa.SX Go.Proofs.YtbgfiiehjaghiaaW.PrintWords Go.Proofs.YtbgfiiehjaghiaaW.PrintLast Go.Proofs.YtbgfiiehjaghiaaW.PrintMore
theorem getD_of {l : List Int} {n : Nat} {x : Int} (h : l[n]? = some x) : l.getD n 0 = x := by rw [List.getD_eq_getElem?_getD, h]; rfl
theorem code91 : Try.f91.body = some (Code.seq (cr Try.f91 0 false) (Code.seq (Code.seq (cr Try.f91 1 false) (Code.block 0 (Code.loop (Code.seq (cr Try.f91 2 false) (Code.seq (Code.cond (Operand.tmp 9) Code.skip (Code.exit 0)) (Code.seq (Code.block 1 (Code.seq (cr Try.f91 3 false) (Code.seq (cr Try.f91 4 false) (Code.cond (Operand.tmp 16) (Code.seq (cr Try.f91 5 false) Code.ret) Code.skip)))) (cr Try.f91 6 false))))))) (Code.seq (cr Try.f91 7 false) Code.ret))) := by kernel_rfl
theorem bidx_sat0 {w0 : World} {se : Sl} {es : List Int} {x : Int} (hre : RdI w0 se es) :
  Calls Try.prog 91 #[.slice se.A se.n se.c, iv x] w0 (Ret fun r w' => r = .int .i64 (idxI es x) ∧ Sat w0 w' []) := by
 have hS : Sat w0 w0 [] := Sat.start w0
 have hel := hre.len
 have hbig := hre.big
 refine enter (n := 19) Try.func91 code91 (by kernel_rfl) (Nat.le_of_ble_eq_true rfl) (fun a ha => ?_)
 replace ha : Has 19 [(0, .slice se.A se.n se.c), (1, iv x)] a := ha
 refine wp_seq (jQ [0] (jX [(0, 4, iv 0)] ha fun a ha => ?_))
 refine jY (jJ (wp_seq (wp_seq (jQ [0, 1, 2] (jX [(0, 6, .slice se.A se.n se.c), (1, 7, iv (se.n : Int)), (2, 8, iv 0)] ha fun a ha => ?_)))))
 refine jY (jJ (wp_block ?_))
 refine wp_loop_ghost (fun n_ a_ w_ => ∃ (i : Nat), n_ = es.length - i ∧ (i ≤ es.length) ∧ (x ∉ es.take i) ∧ Has 19 [(0, .slice se.A se.n se.c), (1, iv x), (7, iv (se.n : Int)), (8, iv (i : Int))] a_ ∧ Sat w0 w_ ([])) _ ⟨0, rfl, Nat.zero_le _, by simp, ha.keeps [0, 1, 7, 8] _ rfl, hS⟩ ?_
 rintro n_ a w ⟨i, rfl, hi, hno, ha, hS⟩
 refine wp_seq (jQ [0] (jX [(0, 9, .bool (decide ((i : Int) < (se.n : Int))))] ha fun a ha => ?_))
 refine jY (jJ (wp_seq ?_))
 by_cases c1 : (i : Int) < (se.n : Int)
 ·
  have hlt : i < es.length := by omega
  obtain ⟨x9, hx9⟩ : ∃ x, es[i]? = some x := ⟨_, List.getElem?_eq_getElem hlt⟩
  refine jW ha rfl (decide_eq_true c1) ?_
  refine wp_skip (jJ (wp_seq (wp_block (wp_seq (jQ [0, 1] (jX [(0, 10, iv (i : Int)), (1, 5, iv (i : Int))] ha fun a ha => ?_))))))
  refine jY (jJ (wp_seq (jQ [0, 1, 2, 3, 4, 5] (jX [(0, 11, iv x), (1, 12, .slice se.A se.n se.c), (2, 13, iv (i : Int))] ha fun a ha => ?_))))
  refine jU (.pointer (some ⟨bk se, of_ se + i * 1, none⟩)) ha (jH (el := 3) (sz := 1) (j := i) ha (qV (t := 37) (x := 12) (y := 13) (d := 14)) rfl rfl (by kernel_rfl) (by kernel_rfl) ((hre.sat hS).at_ ((List.getElem?_eq_some_iff.1 hx9).1)).1 (by rw [((hre.sat hS)).len]; exact (List.getElem?_eq_some_iff.1 hx9).1)) fun a ha => ?_
  refine jU (iv x9) ha (qQ (p := ⟨bk se, of_ se + i * 1, none⟩) ha (qU (t := 3) (x := 14) (d := 15) (ty := 3)) rfl (by kernel_rfl) (fun w' hw => by rw [hw, Nat.mul_one, ← getD_of hx9]; exact ((hre.sat hS).at_ ((List.getElem?_eq_some_iff.1 hx9).1)).2)) fun a ha => ?_
  refine jX [(5, 16, .bool (decide (x = x9)))] ha fun a ha => ?_
  refine jY (jJ ?_)
  by_cases c2 : x = x9
  ·
   refine jW ha rfl (decide_eq_true c2) ?_;refine wp_seq (jQ [0, 1] (jX [(0, 17, iv (i : Int)), (1, 4, iv (i : Int))] ha fun a ha => ?_));refine jY (jJ (wp_ret (in_r (qK (qK (in_r (qK (jV ha (by kernel_rfl) (qX (t := 4) ha rfl) ?_))))))));have hE : idxI es x = (i : Int) := idxI_yes (by rw [c2]; exact hx9) hno;rw [hE];exact ⟨rfl, hS⟩
  refine jK ha rfl (decide_eq_false c2) ?_
  refine wp_skip (in_n (jJ (jQ [0, 1] (qZ 18 ((i : Int) + 1) ha fun a ha => ?_))))
  refine jX [(1, 8, iv ((i : Int) + 1))] ha fun a ha => ?_
  refine jY (jJ ?_)
  exact ⟨_, by omega, i + 1, rfl, by omega, bkT_not hx9 hno c2, ha.keeps [0, 1, 7, 8] _ rfl, hS⟩
 refine jK ha rfl (decide_eq_false c1) ?_
 refine wp_exit (qJ (qJ (in_x (jJ (wp_seq (jQ [0] (jX [(0, 4, iv (-1))] ha fun a ha => ?_)))))))
 refine jY (jJ (wp_ret (jV ha (by kernel_rfl) (qX (t := 4) ha rfl) ?_)))
 have hE : idxI es x = (-1) := idxI_no (bkT_all (by omega) hno)
 rw [hE]
 exact ⟨rfl, hS⟩
theorem bidx_sat {w0 w : World} {Rs : List Asn} {se : Sl} {es : List Int} {x : Int} (hS : Sat w0 w Rs) (hre : RdI w se es) :
  Calls Try.prog 91 #[.slice se.A se.n se.c, iv x] w (Ret fun r w' => r = .int .i64 (idxI es x) ∧ Sat w0 w' Rs) := lift0 hS (bidx_sat0 hre)
theorem index_sat {w0 w : World} {Rs : List Asn} {s : Sl} {l : List Int} (hS : Sat w0 w Rs) (hr : RdI w s l) (_ : l.length ≤ 1000000) (x : Int) :
  Calls Try.prog 91 #[.slice s.A s.n s.c, .int .i64 x] w (Ret fun r w' => r = .int .i64 (idxI l x) ∧ Sat w0 w' Rs) := bidx_sat hS hr
theorem code117 : Try.f117.body = some (Code.seq (cr Try.f117 0 false) (Code.seq (Code.seq (cr Try.f117 1 false) (Code.cond (Operand.tmp 7) (Code.seq (cr Try.f117 2 false) Code.ret) Code.skip)) (Code.seq (cr Try.f117 3 false) Code.ret))) := by kernel_rfl
theorem most_sat {w0 w : World} {Rs : List Asn} (hS : Sat w0 w Rs) (x y : Int) :
  Calls Try.prog 117 #[.int .i64 x, .int .i64 y] w (Ret fun r w' => r = .int .i64 (max x y) ∧ Sat w0 w' Rs) := by
 refine enter (n := 10) Try.func117 code117 (by kernel_rfl) (Nat.le_of_ble_eq_true rfl) (fun a ha => ?_)
 replace ha : Has 10 [(0, iv x), (1, iv y)] a := ha
 refine wp_seq (jQ [0] (jX [(0, 4, iv 0)] ha fun a ha => ?_))
 refine jY (jJ (wp_seq (wp_seq (jQ [0, 1, 2] (jX [(0, 5, iv x), (1, 6, iv y), (2, 7, .bool (decide (x > y)))] ha fun a ha => ?_)))))
 refine jY (jJ ?_)
 by_cases c1 : x > y
 ·
  refine jW ha rfl (decide_eq_true c1) ?_
  refine wp_seq (jQ [0, 1] (jX [(0, 8, iv x), (1, 4, iv x)] ha fun a ha => ?_))
  refine jY (jJ (wp_ret (qK (jV ha (by kernel_rfl) (qX (t := 4) ha rfl) ?_))))
  have hE : max x y = x := by omega
  rw [hE]
  exact ⟨rfl, hS⟩
 refine jK ha rfl (decide_eq_false c1) ?_
 refine wp_skip (jJ (wp_seq (jQ [0, 1] (jX [(0, 9, iv y), (1, 4, iv y)] ha fun a ha => ?_))))
 refine jY (jJ (wp_ret (jV ha (by kernel_rfl) (qX (t := 4) ha rfl) ?_)))
 have hE : max x y = y := by omega
 rw [hE]
 exact ⟨rfl, hS⟩
theorem code84 : Try.f84.body = some (Code.seq (cr Try.f84 0 false) (Code.seq (Code.seq (cr Try.f84 1 false) (Code.block 0 (Code.loop (Code.seq (Code.seq (cr Try.f84 2 false) (Code.cond (Operand.tmp 9) Code.skip (Code.exit 0))) (Code.seq (Code.block 1 (Code.seq (cr Try.f84 4 false) (Code.cond (Operand.tmp 17) (Code.seq (cr Try.f84 5 false) Code.ret) Code.skip))) (cr Try.f84 3 false)))))) (Code.seq (cr Try.f84 6 false) Code.ret))) := by kernel_rfl
theorem bhas_sat0 {w0 : World} {se : Sl} {es : List Int} {x : Int} (hre : RdI w0 se es) :
  Calls Try.prog 84 #[.slice se.A se.n se.c, iv x] w0 (Ret fun r w' => r = .bool (es.contains x) ∧ Sat w0 w' []) := by
 have hS : Sat w0 w0 [] := Sat.start w0
 have hel := hre.len
 have hbig := hre.big
 refine enter (n := 18) Try.func84 code84 (by kernel_rfl) (Nat.le_of_ble_eq_true rfl) (fun a ha => ?_)
 replace ha : Has 18 [(0, .slice se.A se.n se.c), (1, iv x)] a := ha
 refine wp_seq (jQ [0] (jX [(0, 4, .bool false)] ha fun a ha => ?_))
 refine jY (jJ (wp_seq (wp_seq (jQ [0] (jX [(0, 5, iv 0)] ha fun a ha => ?_)))))
 refine jY (jJ (wp_block ?_))
 refine wp_loop_ghost (fun n_ a_ w_ => ∃ (i : Nat), n_ = es.length - i ∧ (i ≤ es.length) ∧ (x ∉ es.take i) ∧ Has 18 [(0, .slice se.A se.n se.c), (1, iv x), (5, iv (i : Int))] a_ ∧ Sat w0 w_ ([])) _ ⟨0, rfl, Nat.zero_le _, by simp, ha.keeps [0, 1, 5] _ rfl, hS⟩ ?_
 rintro n_ a w ⟨i, rfl, hi, hno, ha, hS⟩
 refine wp_seq (wp_seq (jQ [0, 1, 2, 3] (jX [(0, 6, iv (i : Int)), (1, 7, .slice se.A se.n se.c), (2, 8, iv (se.n : Int)), (3, 9, .bool (decide ((i : Int) < (se.n : Int))))] ha fun a ha => ?_)))
 refine jY (jJ ?_)
 by_cases c1 : (i : Int) < (se.n : Int)
 ·
  have hlt : i < es.length := by omega
  obtain ⟨x9, hx9⟩ : ∃ x, es[i]? = some x := ⟨_, List.getElem?_eq_getElem hlt⟩
  refine jW ha rfl (decide_eq_true c1) ?_
  refine wp_skip (jJ (wp_seq (wp_block (wp_seq (jQ [0, 1, 2, 3, 4, 5] (jX [(0, 12, .slice se.A se.n se.c), (1, 13, iv (i : Int))] ha fun a ha => ?_))))))
  refine jU (.pointer (some ⟨bk se, of_ se + i * 1, none⟩)) ha (jH (el := 3) (sz := 1) (j := i) ha (qV (t := 37) (x := 12) (y := 13) (d := 14)) rfl rfl (by kernel_rfl) (by kernel_rfl) ((hre.sat hS).at_ ((List.getElem?_eq_some_iff.1 hx9).1)).1 (by rw [((hre.sat hS)).len]; exact (List.getElem?_eq_some_iff.1 hx9).1)) fun a ha => ?_
  refine jU (iv x9) ha (qQ (p := ⟨bk se, of_ se + i * 1, none⟩) ha (qU (t := 3) (x := 14) (d := 15) (ty := 3)) rfl (by kernel_rfl) (fun w' hw => by rw [hw, Nat.mul_one, ← getD_of hx9]; exact ((hre.sat hS).at_ ((List.getElem?_eq_some_iff.1 hx9).1)).2)) fun a ha => ?_
  refine jX [(4, 16, iv x), (5, 17, .bool (decide (x9 = x)))] ha fun a ha => ?_
  refine jY (jJ ?_)
  by_cases c2 : x9 = x
  ·
   refine jW ha rfl (decide_eq_true c2) ?_;refine wp_seq (jQ [0] (jX [(0, 4, .bool true)] ha fun a ha => ?_));refine jY (jJ (wp_ret (in_r (qK (qK (in_r (qK (jV ha (by kernel_rfl) (qX (t := 4) ha rfl) ?_))))))));have hE : es.contains x = true := List.contains_iff_mem.2 (by rw [← c2]; exact List.mem_of_getElem? hx9);rw [hE];exact ⟨rfl, hS⟩
  refine jK ha rfl (decide_eq_false c2) ?_
  refine wp_skip (in_n (jJ (jQ [0, 1, 2] (jX [(0, 10, iv (i : Int))] ha fun a ha => ?_))))
  refine qZ 11 ((i : Int) + 1) ha fun a ha => ?_
  refine jX [(2, 5, iv ((i : Int) + 1))] ha fun a ha => ?_
  refine jY (jJ ?_)
  exact ⟨_, by omega, i + 1, rfl, by omega, bkT_not hx9 hno (fun h9 => c2 h9.symm), ha.keeps [0, 1, 5] _ rfl, hS⟩
 refine jK ha rfl (decide_eq_false c1) ?_
 refine wp_exit (qJ (qJ (in_x (jJ (wp_seq (jQ [0] (jX [(0, 4, .bool false)] ha fun a ha => ?_)))))))
 refine jY (jJ (wp_ret (jV ha (by kernel_rfl) (qX (t := 4) ha rfl) ?_)))
 have hE : es.contains x = false := Bool.eq_false_iff.2 fun h9 => bkT_all (by omega) hno (List.contains_iff_mem.1 h9)
 rw [hE]
 exact ⟨rfl, hS⟩
theorem bhas_sat {w0 w : World} {Rs : List Asn} {se : Sl} {es : List Int} {x : Int} (hS : Sat w0 w Rs) (hre : RdI w se es) :
  Calls Try.prog 84 #[.slice se.A se.n se.c, iv x] w (Ret fun r w' => r = .bool (es.contains x) ∧ Sat w0 w' Rs) := lift0 hS (bhas_sat0 hre)
theorem has_sat {w0 w : World} {Rs : List Asn} {s : Sl} {l : List Int} (hS : Sat w0 w Rs) (hr : RdI w s l) (_ : l.length ≤ 1000000) (x : Int) :
  Calls Try.prog 84 #[.slice s.A s.n s.c, .int .i64 x] w (Ret fun r w' => r = .bool (l.contains x) ∧ Sat w0 w' Rs) := bhas_sat hS hr
theorem code118 : Try.f118.body = some (Code.seq (cr Try.f118 0 false) (Code.seq (cr Try.f118 1 false) (Code.seq (Code.seq (cr Try.f118 2 false) (Code.block 0 (Code.loop (Code.seq (Code.seq (cr Try.f118 3 false) (Code.cond (Operand.tmp 11) Code.skip (Code.exit 0))) (Code.seq (Code.block 1 (Code.seq (cr Try.f118 5 false) (Code.cond (Operand.tmp 19) (cr Try.f118 6 false) Code.skip))) (cr Try.f118 4 false)))))) (Code.seq (cr Try.f118 7 false) Code.ret)))) := by kernel_rfl
theorem bdrop_sat0 {w0 : World} {se : Sl} {es : List Int} {x : Int} (hre : RdI w0 se es) (hlen : es.length ≤ 1000000) :
  Calls Try.prog 118 #[.slice se.A se.n se.c, iv x] w0 (Ret fun r w' => ∃ o : Sl, r = .slice o.A o.n o.c ∧ Sat w0 w' (rI o (es.filter (fun z => z != x)) :: [])) := by
 have hS : Sat w0 w0 [] := Sat.start w0
 have hel := hre.len
 have hbig := hre.big
 refine enter (n := 28) Try.func118 code118 (by kernel_rfl) (Nat.le_of_ble_eq_true rfl) (fun a ha => ?_)
 replace ha : Has 28 [(0, .slice se.A se.n se.c), (1, iv x)] a := ha
 refine wp_seq (jQ [0] (jX [(0, 4, .slice none 0 0)] ha fun a ha => ?_))
 refine jY (jJ (wp_seq (jQ [0, 1] (jZ (qY 7 [] 3 (fun b => .slice (some ⟨b, 0, none⟩) 0 0) ha hS fun b1 w a hb2 hS ha => ?_)))))
 refine jX [(1, 5, .slice (some ⟨b1, 0, none⟩) 0 0)] ha fun a ha => ?_
 refine jY (jJ (wp_seq (wp_seq (jQ [0] (jX [(0, 6, iv 0)] ha fun a ha => ?_)))))
 refine jY (jJ (wp_block ?_))
 replace hS := hS.blk0 1 0 rfl
 replace hS : Sat w0 w ((rI (⟨some ⟨b1, 0, none⟩, 0, 0⟩ : Sl) []) :: []) := hS
 refine wp_loop_ghost (fun n_ a_ w_ => ∃ (i : Nat) (o : Sl), n_ = es.length - i ∧ (i ≤ es.length) ∧ Has 28 [(0, .slice se.A se.n se.c), (1, iv x), (5, .slice o.A o.n o.c), (6, iv (i : Int))] a_ ∧ Sat w0 w_ ((rI o ((es.take i).filter (fun z => z != x))) :: [])) _ ⟨0, ⟨some ⟨b1, 0, none⟩, 0, 0⟩, rfl, Nat.zero_le _, ha.keeps [0, 1, 5, 6] _ rfl, hS⟩ ?_
 rintro n_ a w ⟨i, o, rfl, hi, ha, hS⟩
 refine wp_seq (wp_seq (jQ [0, 1, 2, 3] (jX [(0, 8, iv (i : Int)), (1, 9, .slice se.A se.n se.c), (2, 10, iv (se.n : Int)), (3, 11, .bool (decide ((i : Int) < (se.n : Int))))] ha fun a ha => ?_)))
 refine jY (jJ ?_)
 by_cases c3 : (i : Int) < (se.n : Int)
 ·
  have hlt : i < es.length := by omega
  obtain ⟨x9, hx9⟩ : ∃ x, es[i]? = some x := ⟨_, List.getElem?_eq_getElem hlt⟩
  refine jW ha rfl (decide_eq_true c3) ?_
  refine wp_skip (jJ (wp_seq (wp_block (wp_seq (jQ [0, 1, 2, 3, 4, 5] (jX [(0, 14, .slice se.A se.n se.c), (1, 15, iv (i : Int))] ha fun a ha => ?_))))))
  refine jU (.pointer (some ⟨bk se, of_ se + i * 1, none⟩)) ha (jH (el := 3) (sz := 1) (j := i) ha (qV (t := 37) (x := 14) (y := 15) (d := 16)) rfl rfl (by kernel_rfl) (by kernel_rfl) ((hre.sat hS).at_ ((List.getElem?_eq_some_iff.1 hx9).1)).1 (by rw [((hre.sat hS)).len]; exact (List.getElem?_eq_some_iff.1 hx9).1)) fun a ha => ?_
  refine jU (iv x9) ha (qQ (p := ⟨bk se, of_ se + i * 1, none⟩) ha (qU (t := 3) (x := 16) (d := 17) (ty := 3)) rfl (by kernel_rfl) (fun w' hw => by rw [hw, Nat.mul_one, ← getD_of hx9]; exact ((hre.sat hS).at_ ((List.getElem?_eq_some_iff.1 hx9).1)).2)) fun a ha => ?_
  refine jX [(4, 18, iv x), (5, 19, .bool (!(decide (x9 = x))))] ha fun a ha => ?_
  refine jY (jJ ?_)
  by_cases c4 : x9 = x
  ·
   refine jK ha rfl (qG (decide_eq_true c4)) ?_;refine wp_skip (in_n (jJ (jQ [0, 1, 2] (jX [(0, 12, iv (i : Int))] ha fun a ha => ?_))));refine qZ 13 ((i : Int) + 1) ha fun a ha => ?_;refine jX [(2, 6, iv ((i : Int) + 1))] ha fun a ha => ?_;refine jY (jJ ?_);replace hS : Sat w0 w ((rI o ((es.take i).filter (fun z => z != x))) :: []) := hS;replace hS : Sat w0 w ((rI o ((es.take (i + 1)).filter (fun z => z != x))) :: []) := by rw [filt_next hx9, if_pos c4, List.append_nil]; exact hS
   exact ⟨_, by omega, i + 1, o, rfl, by omega, ha.keeps [0, 1, 5, 6] _ rfl, hS⟩
  refine jW ha rfl (qH (decide_eq_false c4)) ?_
  refine jQ [0, 1, 2, 3, 4, 5, 6, 7] (jX [(0, 20, .slice o.A o.n o.c), (1, 21, .slice se.A se.n se.c), (2, 22, iv (i : Int))] ha fun a ha => ?_)
  refine jU (.pointer (some ⟨bk se, of_ se + i * 1, none⟩)) ha (jH (el := 3) (sz := 1) (j := i) ha (qV (t := 37) (x := 21) (y := 22) (d := 23)) rfl rfl (by kernel_rfl) (by kernel_rfl) ((hre.sat hS).at_ ((List.getElem?_eq_some_iff.1 hx9).1)).1 (by rw [((hre.sat hS)).len]; exact (List.getElem?_eq_some_iff.1 hx9).1)) fun a ha => ?_
  refine jU (iv x9) ha (qQ (p := ⟨bk se, of_ se + i * 1, none⟩) ha (qU (t := 3) (x := 23) (d := 24) (ty := 3)) rfl (by kernel_rfl) (fun w' hw => by rw [hw, Nat.mul_one, ← getD_of hx9]; exact ((hre.sat hS).at_ ((List.getElem?_eq_some_iff.1 hx9).1)).2)) fun a ha => ?_
  refine jZ (qY 25 [iv x9] 3 (fun b => .slice (some ⟨b, 0, none⟩) 1 1) ha hS fun b5 w a hb6 hS ha => ?_)
  refine jZ (o_ap 26 1 0 (SX.encI (((es.take i).filter (fun z => z != x)) ++ [x9])) ha hS rfl rfl (by rw [encI_length]; have h9 := filt_len (l := es) (x := x) (i := i); simp only [List.length_cons, List.length_nil]; omega) (encI_snoc _ _) fun s10 w a hS hn11 ha => ?_)
  refine jX [(7, 5, .slice s10.A s10.n s10.c)] ha fun a ha => ?_
  refine jY (in_n (jJ (jQ [0, 1, 2] (jX [(0, 12, iv (i : Int))] ha fun a ha => ?_))))
  refine qZ 13 ((i : Int) + 1) ha fun a ha => ?_
  refine jX [(2, 6, iv ((i : Int) + 1))] ha fun a ha => ?_
  refine jY (jJ ?_)
  replace hS := hS.pickN 2 [1]
  replace hS : Sat w0 w ((rI s10 ((es.take (i + 1)).filter (fun z => z != x))) :: []) := by rw [filt_next hx9, if_neg c4]; exact hS
  exact ⟨_, by omega, i + 1, s10, rfl, by omega, ha.keeps [0, 1, 5, 6] _ rfl, hS⟩
 refine jK ha rfl (decide_eq_false c3) ?_
 refine wp_exit (qJ (qJ (in_x (jJ (wp_seq (jQ [0, 1] (jX [(0, 27, .slice o.A o.n o.c), (1, 4, .slice o.A o.n o.c)] ha fun a ha => ?_)))))))
 refine jY (jJ (wp_ret (jV ha (by kernel_rfl) (qX (t := 4) ha rfl) ?_)))
 have hE : es.take i = es := List.take_of_length_le (by omega)
 rw [hE] at hS
 exact ⟨o, rfl, hS⟩
theorem bdrop_sat {w0 w : World} {Rs : List Asn} {se : Sl} {es : List Int} {x : Int} (hS : Sat w0 w Rs) (hre : RdI w se es) (hlen : es.length ≤ 1000000) :
  Calls Try.prog 118 #[.slice se.A se.n se.c, iv x] w (Ret fun r w' => ∃ o : Sl, r = .slice o.A o.n o.c ∧ Sat w0 w' (rI o (es.filter (fun z => z != x)) :: Rs)) :=
 (bdrop_sat0 hre hlen).mono fun e w' h => by
  cases e with
  | returned r => obtain ⟨o, h1, h2⟩ := h; exact ⟨o, h1, hS.comp h2⟩
  | _ => exact h.elim
theorem drop_sat {w0 w : World} {Rs : List Asn} {s : Sl} {l : List Int} (hS : Sat w0 w Rs) (hr : RdI w s l) (h : l.length ≤ 1000000) (x : Int) :
  Calls Try.prog 118 #[.slice s.A s.n s.c, .int .i64 x] w (Ret fun r w' => ∃ o : Sl, r = .slice o.A o.n o.c ∧ Sat w0 w' (rI o (l.filter (fun z => z != x)) :: Rs)) := bdrop_sat hS hr h
theorem code82 : Try.f82.body = some (Code.seq (cr Try.f82 0 false) (Code.seq (Code.seq (cr Try.f82 1 false) (Code.block 0 (Code.loop (Code.seq (Code.seq (cr Try.f82 2 false) (Code.cond (Operand.tmp 7) Code.skip (Code.exit 0))) (Code.seq (Code.block 1 (Code.seq (cr Try.f82 4 false) (Code.cond (Operand.tmp 15) (Code.seq (cr Try.f82 5 false) Code.ret) Code.skip))) (cr Try.f82 3 false)))))) (Code.seq (cr Try.f82 6 false) Code.ret))) := by kernel_rfl
theorem good_sat0 {w0 : World} {se : Sl} {es : List Int} (hre : RdI w0 se es) :
  Calls Try.prog 82 #[.slice se.A se.n se.c] w0 (Ret fun r w' => r = .bool (entriesB es) ∧ Sat w0 w' []) := by
 have hS : Sat w0 w0 [] := Sat.start w0
 have hel := hre.len
 have hbig := hre.big
 refine enter (n := 19) Try.func82 code82 (by kernel_rfl) (Nat.le_of_ble_eq_true rfl) (fun a ha => ?_)
 replace ha : Has 19 [(0, .slice se.A se.n se.c)] a := ha
 refine wp_seq (jQ [0] (jX [(0, 2, .bool false)] ha fun a ha => ?_))
 refine jY (jJ (wp_seq (wp_seq (jQ [0] (jX [(0, 3, iv 0)] ha fun a ha => ?_)))))
 refine jY (jJ (wp_block ?_))
 refine wp_loop_ghost (fun n_ a_ w_ => ∃ (i : Nat), n_ = es.length - i ∧ (i ≤ es.length) ∧ (∀ (j : Nat) (x : Int), j < i → es[j]? = some x → entryB x = true) ∧ Has 19 [(0, .slice se.A se.n se.c), (3, iv (i : Int))] a_ ∧ Sat w0 w_ ([])) _ ⟨0, rfl, Nat.zero_le _, (fun j x hj => by omega), ha.keeps [0, 3] _ rfl, hS⟩ ?_
 rintro n_ a w ⟨i, rfl, hi, hall, ha, hS⟩
 refine wp_seq (wp_seq (jQ [0, 1, 2, 3] (jX [(0, 4, iv (i : Int)), (1, 5, .slice se.A se.n se.c), (2, 6, iv (se.n : Int)), (3, 7, .bool (decide ((i : Int) < (se.n : Int))))] ha fun a ha => ?_)))
 refine jY (jJ ?_)
 by_cases c1 : (i : Int) < (se.n : Int)
 ·
  have hlt : i < es.length := by omega
  obtain ⟨x9, hx9⟩ : ∃ x, es[i]? = some x := ⟨_, List.getElem?_eq_getElem hlt⟩
  refine jW ha rfl (decide_eq_true c1) ?_
  refine wp_skip (jJ (wp_seq (wp_block (wp_seq (jQ [0, 1, 2, 3, 4, 5] (jX [(0, 10, .slice se.A se.n se.c), (1, 11, iv (i : Int))] ha fun a ha => ?_))))))
  refine jU (.pointer (some ⟨bk se, of_ se + i * 1, none⟩)) ha (jH (el := 3) (sz := 1) (j := i) ha (qV (t := 37) (x := 10) (y := 11) (d := 12)) rfl rfl (by kernel_rfl) (by kernel_rfl) ((hre.sat hS).at_ ((List.getElem?_eq_some_iff.1 hx9).1)).1 (by rw [((hre.sat hS)).len]; exact (List.getElem?_eq_some_iff.1 hx9).1)) fun a ha => ?_
  refine jU (iv x9) ha (qQ (p := ⟨bk se, of_ se + i * 1, none⟩) ha (qU (t := 3) (x := 12) (d := 13) (ty := 3)) rfl (by kernel_rfl) (fun w' hw => by rw [hw, Nat.mul_one, ← getD_of hx9]; exact ((hre.sat hS).at_ ((List.getElem?_eq_some_iff.1 hx9).1)).2)) fun a ha => ?_
  refine jZ (jG 14 (vs := [iv x9, iv (-32767), iv 32767]) ha (q_in hS _ _ _) fun v2 w a hp3 ha => ?_)
  obtain ⟨rfl, hS⟩ := hp3
  refine jX [(5, 15, .bool (!((inB x9 (-32767) 32767))))] ha fun a ha => ?_
  refine jY (jJ ?_)
  rcases Bool.eq_false_or_eq_true (inB x9 (-32767) 32767) with c4 | c4
  ·
   refine jK ha rfl (qG c4) ?_;refine wp_skip (in_n (jJ (jQ [0, 1, 2] (jX [(0, 8, iv (i : Int))] ha fun a ha => ?_))));refine qZ 9 ((i : Int) + 1) ha fun a ha => ?_;refine jX [(2, 3, iv ((i : Int) + 1))] ha fun a ha => ?_;refine jY (jJ ?_);exact ⟨_, by omega, i + 1, rfl, by omega, allE hx9 hall (show entryB x9 = true from c4), ha.keeps [0, 3] _ rfl, hS⟩
  refine jW ha rfl (qH c4) ?_
  refine wp_seq (jQ [0] (jX [(0, 2, .bool false)] ha fun a ha => ?_))
  refine jY (jJ (wp_ret (in_r (qK (qK (in_r (qK (jV ha (by kernel_rfl) (qX (t := 2) ha rfl) ?_))))))))
  have hB : badE es = true := badE_yes hx9 (show entryB x9 = false from c4)
  have hE : entriesB es = false := by unfold entriesB; rw [hB]; simp; try omega
  rw [hE]
  exact ⟨rfl, hS⟩
 refine jK ha rfl (decide_eq_false c1) ?_
 refine wp_exit (qJ (qJ (in_x (jJ (wp_seq (jQ [0, 1, 2, 3] (jX [(0, 16, .slice se.A se.n se.c), (1, 17, iv (se.n : Int)), (2, 18, .bool (decide ((se.n : Int) ≤ 60))), (3, 2, .bool (decide ((se.n : Int) ≤ 60)))] ha fun a ha => ?_)))))))
 refine jY (jJ (wp_ret (jV ha (by kernel_rfl) (qX (t := 2) ha rfl) ?_)))
 have hB : badE es = false := badE_no hall (by omega)
 have hE : entriesB es = decide ((se.n : Int) ≤ 60) := by unfold entriesB; rw [hB]; simp; try omega
 rw [hE]
 exact ⟨rfl, hS⟩
theorem good_sat {w0 w : World} {Rs : List Asn} {se : Sl} {es : List Int} (hS : Sat w0 w Rs) (hre : RdI w se es) :
  Calls Try.prog 82 #[.slice se.A se.n se.c] w (Ret fun r w' => r = .bool (entriesB es) ∧ Sat w0 w' Rs) := lift0 hS (good_sat0 hre)
theorem code120 : Try.f120.body = some (Code.seq (cr Try.f120 0 false) (Code.seq (cr Try.f120 1 false) Code.ret)) := by kernel_rfl
theorem ec_sat {w0 w : World} {Rs : List Asn} {x : Int} (hS : Sat w0 w Rs) :
  Calls Try.prog 120 #[.int .i64 x] w (Ret fun r w' => r = .bool (!(entryB x)) ∧ Sat w0 w' Rs) := by
 refine enter (n := 6) Try.func120 code120 (by kernel_rfl) (Nat.le_of_ble_eq_true rfl) (fun a ha => ?_)
 replace ha : Has 6 [(0, iv x)] a := ha
 refine wp_seq (jQ [0] (jX [(0, 2, .bool false)] ha fun a ha => ?_))
 refine jY (jJ (wp_seq (jQ [0, 1, 2, 3] (jX [(0, 3, iv x)] ha fun a ha => ?_))))
 refine jZ (jG 4 (vs := [iv x, iv (-32767), iv 32767]) ha (in_sat hS _ _ _) fun v1 w a hp2 ha => ?_)
 obtain ⟨rfl, hS⟩ := hp2
 refine jX [(2, 5, .bool (!((inB x (-32767) 32767)))), (3, 2, .bool (!((inB x (-32767) 32767))))] ha fun a ha => ?_
 refine jY (jJ (wp_ret (jV ha (by kernel_rfl) (qX (t := 2) ha rfl) ?_)))
 exact ⟨rfl, hS⟩
theorem code137 : Try.f137.body = some (Code.seq (cr Try.f137 0 false) (Code.seq (Code.seq (cr Try.f137 1 false) (Code.block 0 (Code.loop (Code.seq (cr Try.f137 2 false) (Code.seq (Code.cond (Operand.tmp 9) Code.skip (Code.exit 0)) (Code.seq (Code.block 1 (Code.seq (cr Try.f137 3 false) (Code.seq (cr Try.f137 4 false) (Code.cond (Operand.tmp 16) (Code.seq (cr Try.f137 5 false) Code.ret) Code.skip)))) (cr Try.f137 6 false))))))) (Code.seq (cr Try.f137 7 false) Code.ret))) := by kernel_rfl
theorem eidx_sat0 {w0 : World} {se : Sl} {es : List Int} (hre : RdI w0 se es) :
  Calls Try.prog 137 #[.slice se.A se.n se.c, (.func (.func 120) #[] #[])] w0 (Ret fun r w' => ∃ kx : Int, r = .int .i64 kx ∧ decide (kx ≥ 0) = badE es ∧ Sat w0 w' []) := by
 have hS : Sat w0 w0 [] := Sat.start w0
 have hel := hre.len
 have hbig := hre.big
 refine enter (n := 19) Try.func137 code137 (by kernel_rfl) (Nat.le_of_ble_eq_true rfl) (fun a ha => ?_)
 replace ha : Has 19 [(0, .slice se.A se.n se.c), (1, (.func (.func 120) #[] #[]))] a := ha
 refine wp_seq (jQ [0] (jX [(0, 4, iv 0)] ha fun a ha => ?_))
 refine jY (jJ (wp_seq (wp_seq (jQ [0, 1, 2] (jX [(0, 6, .slice se.A se.n se.c), (1, 7, iv (se.n : Int)), (2, 8, iv 0)] ha fun a ha => ?_)))))
 refine jY (jJ (wp_block ?_))
 refine wp_loop_ghost (fun n_ a_ w_ => ∃ (i : Nat), n_ = es.length - i ∧ (i ≤ es.length) ∧ (∀ (j : Nat) (x : Int), j < i → es[j]? = some x → entryB x = true) ∧ Has 19 [(0, .slice se.A se.n se.c), (1, (.func (.func 120) #[] #[])), (7, iv (se.n : Int)), (8, iv (i : Int))] a_ ∧ Sat w0 w_ ([])) _ ⟨0, rfl, Nat.zero_le _, (fun j x hj => by omega), ha.keeps [0, 1, 7, 8] _ rfl, hS⟩ ?_
 rintro n_ a w ⟨i, rfl, hi, hall, ha, hS⟩
 refine wp_seq (jQ [0] (jX [(0, 9, .bool (decide ((i : Int) < (se.n : Int))))] ha fun a ha => ?_))
 refine jY (jJ (wp_seq ?_))
 by_cases c1 : (i : Int) < (se.n : Int)
 ·
  have hlt : i < es.length := by omega
  obtain ⟨x9, hx9⟩ : ∃ x, es[i]? = some x := ⟨_, List.getElem?_eq_getElem hlt⟩
  refine jW ha rfl (decide_eq_true c1) ?_
  refine wp_skip (jJ (wp_seq (wp_block (wp_seq (jQ [0, 1] (jX [(0, 10, iv (i : Int)), (1, 5, iv (i : Int))] ha fun a ha => ?_))))))
  refine jY (jJ (wp_seq (jQ [0, 1, 2, 3, 4, 5] (jX [(0, 11, (.func (.func 120) #[] #[])), (1, 12, .slice se.A se.n se.c), (2, 13, iv (i : Int))] ha fun a ha => ?_))))
  refine jU (.pointer (some ⟨bk se, of_ se + i * 1, none⟩)) ha (jH (el := 3) (sz := 1) (j := i) ha (qV (t := 37) (x := 12) (y := 13) (d := 14)) rfl rfl (by kernel_rfl) (by kernel_rfl) ((hre.sat hS).at_ ((List.getElem?_eq_some_iff.1 hx9).1)).1 (by rw [((hre.sat hS)).len]; exact (List.getElem?_eq_some_iff.1 hx9).1)) fun a ha => ?_
  refine jU (iv x9) ha (qQ (p := ⟨bk se, of_ se + i * 1, none⟩) ha (qU (t := 3) (x := 14) (d := 15) (ty := 3)) rfl (by kernel_rfl) (fun w' hw => by rw [hw, Nat.mul_one, ← getD_of hx9]; exact ((hre.sat hS).at_ ((List.getElem?_eq_some_iff.1 hx9).1)).2)) fun a ha => ?_
  refine jZ (o_retF (t := 11) (f := 120) (cap := []) ha (by decide) (xX (op := (Op.call { callee := (Callee.value (Operand.tmp 11)), args := #[(Operand.tmp 15)], argTypes := #[3] })) (d := some 16) (ty := 4)) rfl rfl Try.func120 (by kernel_rfl) (ec_sat (x := x9) hS) fun v2 w a hp3 ha => ?_)
  obtain ⟨rfl, hS⟩ := hp3
  refine jY (jJ ?_)
  rcases Bool.eq_false_or_eq_true (entryB x9) with c4 | c4
  ·
   refine jK ha rfl (qG c4) ?_;refine wp_skip (in_n (jJ (jQ [0, 1] (qZ 18 ((i : Int) + 1) ha fun a ha => ?_))));refine jX [(1, 8, iv ((i : Int) + 1))] ha fun a ha => ?_;refine jY (jJ ?_);exact ⟨_, by omega, i + 1, rfl, by omega, allE hx9 hall c4, ha.keeps [0, 1, 7, 8] _ rfl, hS⟩
  refine jW ha rfl (qH c4) ?_
  refine wp_seq (jQ [0, 1] (jX [(0, 17, iv (i : Int)), (1, 4, iv (i : Int))] ha fun a ha => ?_))
  refine jY (jJ (wp_ret (in_r (qK (qK (in_r (qK (jV ha (by kernel_rfl) (qX (t := 4) ha rfl) ?_))))))))
  exact ⟨_, rfl, by rw [badE_yes hx9 c4]; exact decide_eq_true (by omega), hS⟩
 refine jK ha rfl (decide_eq_false c1) ?_
 refine wp_exit (qJ (qJ (in_x (jJ (wp_seq (jQ [0] (jX [(0, 4, iv (-1))] ha fun a ha => ?_)))))))
 refine jY (jJ (wp_ret (jV ha (by kernel_rfl) (qX (t := 4) ha rfl) ?_)))
 exact ⟨_, rfl, by rw [badE_no hall (by omega)]; decide, hS⟩
theorem eidx_sat {w0 w : World} {Rs : List Asn} {se : Sl} {es : List Int} (hS : Sat w0 w Rs) (hre : RdI w se es) :
  Calls Try.prog 137 #[.slice se.A se.n se.c, (.func (.func 120) #[] #[])] w (Ret fun r w' => ∃ kx : Int, r = .int .i64 kx ∧ decide (kx ≥ 0) = badE es ∧ Sat w0 w' Rs) :=
 (eidx_sat0 hre).mono fun e w' h => by
  cases e with
  | returned r => obtain ⟨kx, h1, h2, h3⟩ := h; exact ⟨kx, h1, h2, hS.comp (Ps := []) h3⟩
  | _ => exact h.elim
theorem code119 : Try.f119.body = some (Code.seq (cr Try.f119 0 false) (Code.seq (cr Try.f119 1 false) Code.ret)) := by kernel_rfl
theorem econ_sat0 {w0 : World} {se : Sl} {es : List Int} (hre : RdI w0 se es) :
  Calls Try.prog 119 #[.slice se.A se.n se.c, (.func (.func 120) #[] #[])] w0 (Ret fun r w' => r = .bool (badE es) ∧ Sat w0 w' []) := by
 have hS : Sat w0 w0 [] := Sat.start w0
 have hel := hre.len
 have hbig := hre.big
 refine enter (n := 9) Try.func119 code119 (by kernel_rfl) (Nat.le_of_ble_eq_true rfl) (fun a ha => ?_)
 replace ha : Has 9 [(0, .slice se.A se.n se.c), (1, (.func (.func 120) #[] #[]))] a := ha
 refine wp_seq (jQ [0] (jX [(0, 4, .bool false)] ha fun a ha => ?_))
 refine jY (jJ (wp_seq (jQ [0, 1, 2, 3, 4] (jX [(0, 5, .slice se.A se.n se.c), (1, 6, (.func (.func 120) #[] #[]))] ha fun a ha => ?_))))
 refine jZ (jG 7 (vs := [.slice se.A se.n se.c, (.func (.func 120) #[] #[])]) ha (eidx_sat hS (hre.sat hS)) fun v1 w a hp2 ha => ?_)
 obtain ⟨kx, rfl, hkx, hS⟩ := hp2
 refine jX [(3, 8, .bool (decide (kx ≥ 0))), (4, 4, .bool (decide (kx ≥ 0)))] ha fun a ha => ?_
 refine jY (jJ (wp_ret (jV ha (by kernel_rfl) (qX (t := 4) ha rfl) ?_)))
 exact ⟨congrArg Value.bool (show (decide (kx ≥ 0)) = badE es from hkx), hS⟩
theorem econ_sat {w0 w : World} {Rs : List Asn} {se : Sl} {es : List Int} (hS : Sat w0 w Rs) (hre : RdI w se es) :
  Calls Try.prog 119 #[.slice se.A se.n se.c, (.func (.func 120) #[] #[])] w (Ret fun r w' => r = .bool (badE es) ∧ Sat w0 w' Rs) := lift0 hS (econ_sat0 hre)
theorem code85 : Try.f85.body = some (Code.seq (cr Try.f85 0 false) (Code.seq (cr Try.f85 1 false) Code.ret)) := by kernel_rfl
theorem arE_sat0 {w0 : World} {se : Sl} {es : List Int} (hre : RdI w0 se es) :
  Calls Try.prog 85 #[.slice se.A se.n se.c] w0 (Ret fun r w' => r = .bool (entriesB es) ∧ Sat w0 w' []) := by
 have hS : Sat w0 w0 [] := Sat.start w0
 have hel := hre.len
 have hbig := hre.big
 refine enter (n := 11) Try.func85 code85 (by kernel_rfl) (Nat.le_of_ble_eq_true rfl) (fun a ha => ?_)
 replace ha : Has 11 [(0, .slice se.A se.n se.c)] a := ha
 refine wp_seq (jQ [0] (jX [(0, 2, .bool false)] ha fun a ha => ?_))
 refine jY (jJ (wp_seq (jQ [0, 1, 2, 3, 4, 5, 6, 7, 8] (jX [(0, 3, .slice se.A se.n se.c), (1, 4, iv (se.n : Int)), (2, 5, .bool (decide ((se.n : Int) ≤ 60))), (3, 6, .bool (decide ((se.n : Int) ≤ 60)))] ha fun a ha => ?_))))
 by_cases c1 : (se.n : Int) ≤ 60
 ·
  replace ha := ha.turn 5 (.bool true) rfl (congrArg Value.bool (decide_eq_true c1))
  replace ha := ha.turn 6 (.bool true) rfl (congrArg Value.bool (decide_eq_true c1))
  refine jX [(4, 7, .slice se.A se.n se.c)] ha fun a ha => ?_
  refine jZ (jG 8 (vs := [.slice se.A se.n se.c, (.func (.func 120) #[] #[])]) ha (econ_sat hS (hre.sat hS)) fun v2 w a hp3 ha => ?_)
  obtain ⟨rfl, hS⟩ := hp3
  refine jX [(6, 9, .bool (!((badE es)))), (7, 10, .bool (!((badE es)))), (8, 2, .bool (!((badE es))))] ha fun a ha => ?_
  refine jY (jJ (wp_ret (jV ha (by kernel_rfl) (qX (t := 2) ha rfl) ?_)))
  have hE : entriesB es = !((badE es)) := by unfold entriesB; rw [decide_eq_true (show es.length ≤ 60 by omega), Bool.true_and]
  rw [hE]
  exact ⟨rfl, hS⟩
 replace ha := ha.turn 5 (.bool false) rfl (congrArg Value.bool (decide_eq_false c1))
 replace ha := ha.turn 6 (.bool false) rfl (congrArg Value.bool (decide_eq_false c1))
 refine jX [(4, 7, undef), (5, 8, undef), (6, 9, undef), (7, 10, .bool false), (8, 2, .bool false)] ha fun a ha => ?_
 refine jY (jJ (wp_ret (jV ha (by kernel_rfl) (qX (t := 2) ha rfl) ?_)))
 have hE : entriesB es = false := by unfold entriesB; rw [decide_eq_false (show ¬ es.length ≤ 60 by omega)]; rfl
 rw [hE]
 exact ⟨rfl, hS⟩
theorem arE_sat {w0 w : World} {Rs : List Asn} {se : Sl} {es : List Int} (hS : Sat w0 w Rs) (hre : RdI w se es) :
  Calls Try.prog 85 #[.slice se.A se.n se.c] w (Ret fun r w' => r = .bool (entriesB es) ∧ Sat w0 w' Rs) := lift0 hS (arE_sat0 hre)
theorem code86 : Try.f86.body = some (Code.seq (cr Try.f86 0 false) (Code.seq (cr Try.f86 1 false) (Code.seq (Code.seq (cr Try.f86 2 false) (Code.block 0 (Code.loop (Code.seq (cr Try.f86 3 false) (Code.seq (Code.cond (Operand.tmp 16) Code.skip (Code.exit 0)) (Code.seq (Code.block 1 (Code.seq (cr Try.f86 4 false) (Code.seq (cr Try.f86 5 false) (Code.seq (Code.seq (cr Try.f86 6 false) (Code.cond (Operand.tmp 34) (cr Try.f86 7 false) Code.skip)) (Code.seq (Code.seq (cr Try.f86 8 false) (Code.cond (Operand.tmp 40) (cr Try.f86 9 false) Code.skip)) (Code.seq (Code.seq (cr Try.f86 10 false) (Code.cond (Operand.tmp 48) (cr Try.f86 11 false) Code.skip)) (cr Try.f86 12 false))))))) (cr Try.f86 13 false))))))) (Code.seq (cr Try.f86 14 false) Code.ret)))) := by kernel_rfl
theorem books_sat (w0 : World) (s0 : Sl) (l0 : List Int) (hr0 : RdI w0 s0 l0) (he : l0.length ≤ 60) (hb : ∀ x ∈ l0, -32767 ≤ x ∧ x ≤ 32767) :
  Calls Try.prog 86 #[.slice s0.A s0.n s0.c] w0 (Ret fun r w' => ∃ (v5 v6 : Sl) (outs : List Sl) (outl : List (List Int)) (us : List (Sl × List Int)), r = .tuple #[v5.v, v6.v] ∧ (outs.length = outl.length ∧ ∀ x ∈ outs.zip outl, x ∈ us) ∧ outl = bkOpens [] l0 ∧ Sat w0 w' [SX.row v5.v 37 1 (SX.encS outs), SX.row v6.v 3 1 (SX.encI (bkFaults 0 [] l0)), rowsI 3 us]) := by
 have hS : Sat w0 w0 [] := Sat.start w0
 have hlen0 := hr0.len
 refine enter (n := 61) Try.func86 code86 (by kernel_rfl) (Nat.le_of_ble_eq_true rfl) (fun a ha => ?_)
 replace ha : Has 61 [(0, .slice s0.A s0.n s0.c)] a := ha
 refine wp_seq (jQ [0, 1] (jX [(0, 2, .slice none 0 0), (1, 3, .slice none 0 0)] ha fun a ha => ?_))
 refine jY (jJ (wp_seq (jQ [0, 1, 2, 3, 4, 5] (jZ (qY 10 [] 3 (fun b => .slice (some ⟨b, 0, none⟩) 0 0) ha hS fun b1 w a hb2 hS ha => ?_)))))
 refine jZ (qY 11 [] 37 (fun b => .slice (some ⟨b, 0, none⟩) 0 0) ha hS fun b3 w a hb4 hS ha => ?_)
 refine jZ (qY 12 [] 3 (fun b => .slice (some ⟨b, 0, none⟩) 0 0) ha hS fun b5 w a hb6 hS ha => ?_)
 refine jX [(3, 4, .slice (some ⟨b1, 0, none⟩) 0 0), (4, 5, .slice (some ⟨b3, 0, none⟩) 0 0), (5, 6, .slice (some ⟨b5, 0, none⟩) 0 0)] ha fun a ha => ?_
 refine jY (jJ (wp_seq (wp_seq (jQ [0, 1, 2] (jX [(0, 13, .slice s0.A s0.n s0.c), (1, 14, iv (s0.n : Int)), (2, 15, iv 0)] ha fun a ha => ?_)))))
 refine jY (jJ (wp_block ?_))
 replace hS := hS.pickN 3 [2, 1, 0]
 replace hS : Sat w0 w ((SX.row (.slice (some ⟨b1, 0, none⟩) 0 0) 3 1 (SX.encI [])) :: (SX.blk b3 [] 37) :: (SX.blk b5 [] 3) :: []) := hS.shutRow (g := b1) (n := 0) (cap := 0) (T := 3) (sz := 1) (xs := []) (cur := []) 0 rfl rfl (Nat.le_refl _) (by decide) rfl
 replace hS : Sat w0 w ((SX.row (.slice (some ⟨b1, 0, none⟩) 0 0) 3 1 (SX.encI [])) :: (SX.row (.slice (some ⟨b3, 0, none⟩) 0 0) 37 1 (SX.encS [])) :: (SX.blk b5 [] 3) :: []) := hS.shutRow (g := b3) (n := 0) (cap := 0) (T := 37) (sz := 1) (xs := []) (cur := []) 1 rfl rfl (Nat.le_refl _) (by decide) rfl
 replace hS : Sat w0 w ((SX.row (.slice (some ⟨b1, 0, none⟩) 0 0) 3 1 (SX.encI [])) :: (SX.row (.slice (some ⟨b3, 0, none⟩) 0 0) 37 1 (SX.encS [])) :: (SX.row (.slice (some ⟨b5, 0, none⟩) 0 0) 3 1 (SX.encI [])) :: []) := hS.shutRow (g := b5) (n := 0) (cap := 0) (T := 3) (sz := 1) (xs := []) (cur := []) 2 rfl rfl (Nat.le_refl _) (by decide) rfl
 replace hS : Sat w0 w ((rowsI 3 []) :: (SX.row (.slice (some ⟨b1, 0, none⟩) 0 0) 3 1 (SX.encI [])) :: (SX.row (.slice (some ⟨b3, 0, none⟩) 0 0) 37 1 (SX.encS [])) :: (SX.row (.slice (some ⟨b5, 0, none⟩) 0 0) 3 1 (SX.encI [])) :: []) := Sat.merge (l := []) hS
 replace hS := hS.pickN 4 [1, 0, 2, 3]
 replace hS : Sat w0 w ((rowsI 3 [(⟨some ⟨b1, 0, none⟩, 0, 0⟩, [])]) :: (SX.row (.slice (some ⟨b3, 0, none⟩) 0 0) 37 1 (SX.encS [])) :: (SX.row (.slice (some ⟨b5, 0, none⟩) 0 0) 3 1 (SX.encI [])) :: []) := Sat.gainRow (s := ⟨some ⟨b1, 0, none⟩, 0, 0⟩) (l := []) hS
 replace hS := hS.pickN 3 [1, 2, 0]
 refine wp_loop_ghost (fun n_ a_ w_ => ∃ (i : Nat) (o : List Int) (so : Sl) (us : List (Sl × List Int)) (outs : List Sl) (outl : List (List Int)) (fs : List Int) (v5 : Sl) (v6 : Sl), n_ = l0.length - i ∧ (i ≤ l0.length) ∧ ((so, o) ∈ us) ∧ (o.length ≤ i) ∧ (fs.length ≤ i) ∧ (outs.length = outl.length ∧ ∀ x ∈ outs.zip outl, x ∈ us) ∧ (outs.length = i) ∧ (outl ++ bkOpens o (l0.drop i) = bkOpens [] l0) ∧ (fs ++ bkFaults (i : Int) o (l0.drop i) = bkFaults 0 [] l0) ∧ Has 61 [(13, .slice s0.A s0.n s0.c), (14, iv (s0.n : Int)), (15, iv (i : Int)), (4, .slice so.A so.n so.c), (5, .slice v5.A v5.n v5.c), (6, .slice v6.A v6.n v6.c)] a_ ∧ Sat w0 w_ ((SX.row (.slice v5.A v5.n v5.c) 37 1 (SX.encS outs)) :: (rI v6 fs) :: (rowsI 3 us) :: [])) _ ⟨0, [], ⟨some ⟨b1, 0, none⟩, 0, 0⟩, [(⟨some ⟨b1, 0, none⟩, 0, 0⟩, [])], [], [], [], ⟨some ⟨b3, 0, none⟩, 0, 0⟩, ⟨some ⟨b5, 0, none⟩, 0, 0⟩, rfl, Nat.zero_le _, List.mem_singleton.2 rfl, Nat.le_refl _, Nat.le_refl _, ⟨rfl, fun x hx => by cases hx⟩, rfl, rfl, rfl, ha.keeps [13, 14, 15, 4, 5, 6] _ rfl, hS⟩ ?_
 rintro n_ a w ⟨i, o, so, us, outs, outl, fs, v5, v6, rfl, hi, hso, hol, hfl, hou, hon, hop, hfp, ha, hS⟩
 refine wp_seq (jQ [0] (jX [(0, 16, .bool (decide ((i : Int) < (s0.n : Int))))] ha fun a ha => ?_))
 refine jY (jJ (wp_seq ?_))
 by_cases c7 : (i : Int) < (s0.n : Int)
 ·
  have hlt : i < l0.length := by have := c7; omega
  obtain ⟨n, hn0⟩ : ∃ n, n = l0.getD i 0 := ⟨_, rfl⟩
  have hn := hb n (by rw [hn0, List.getD_eq_getElem?_getD, List.getElem?_eq_getElem hlt]; exact List.getElem_mem hlt)
  refine jW ha rfl (decide_eq_true c7) ?_
  refine wp_skip (jJ (wp_seq (wp_block (wp_seq (jQ [0, 1, 2, 3, 4] (jX [(0, 17, iv (i : Int))] ha fun a ha => ?_))))))
  refine jU (.pointer (some ⟨bk s0, of_ s0 + i * 1, none⟩)) ha (jH (el := 3) (sz := 1) (j := i) ha (qV (t := 37) (x := 13) (y := 15) (d := 18)) rfl rfl (by kernel_rfl) (by kernel_rfl) ((hr0.sat hS).at_ hlt).1 (by rw [((hr0.sat hS)).len]; exact hlt)) fun a ha => ?_
  refine jU (iv n) ha (qQ (p := ⟨bk s0, of_ s0 + i * 1, none⟩) ha (qU (t := 3) (x := 18) (d := 19) (ty := 3)) rfl (by kernel_rfl) (fun w' hw => by rw [hw, Nat.mul_one, hn0]; exact ((hr0.sat hS).at_ hlt).2)) fun a ha => ?_
  refine jX [(3, 7, iv (i : Int)), (4, 8, iv n)] ha fun a ha => ?_
  refine jY (jJ (wp_seq (jQ [0, 1, 2, 3, 4, 5, 6] (jX [(0, 20, .slice so.A so.n so.c), (1, 21, iv n), (2, 22, iv n)] ha fun a ha => ?_))))
  refine jU (iv (-n)) ha ((qW (v := .int .i64 (IntKind.i64.wrap (0 - n))) ha (xX (op := (Op.unOp UnOp.neg 3 (Operand.tmp 22))) (d := some 23) (ty := 3)) (by kernel_rfl) (fun _ => by kernel_rfl)).as (by rw [wrap_i64 (by omega) (by omega)]; exact congrArg _ (by omega))) fun a ha => ?_
  refine jU (iv (max n (-n))) ha ((qW (v := .int .i64 (if n < (-n) then (-n) else n)) ha (xX (op := (Op.call { callee := (Callee.builtin Builtin.max), args := #[(Operand.tmp 21), (Operand.tmp 23)], argTypes := #[3, 3] })) (d := some 24) (ty := 3)) (by kernel_rfl) (fun _ => by kernel_rfl)).as (by congr 1; omega)) fun a ha => ?_
  refine jZ (jG 25 (vs := [.slice so.A so.n so.c, iv (max n (-n))]) ha (index_sat hS (hS.rdRows (s := so) (l := o) 2 rfl hso) (by omega) _) fun v8 w a hp9 ha => ?_)
  obtain ⟨rfl, hS⟩ := hp9
  have hix := idxI_le o (max n (-n))
  refine jX [(6, 9, iv (idxI o (max n (-n))))] ha fun a ha => ?_
  refine jY (jJ (wp_seq (wp_seq (jQ [0, 1, 2, 3, 4, 5, 6, 7, 8] (jX [(0, 26, iv n), (1, 27, .bool (!(decide (n = 0)))), (2, 28, .bool (!(decide (n = 0))))] ha fun a ha => ?_)))))
  by_cases c10 : n = 0
  ·
   replace ha := ha.turn 27 (.bool false) rfl (congrArg Value.bool (qG (decide_eq_true c10)));replace ha := ha.turn 28 (.bool false) rfl (congrArg Value.bool (qG (decide_eq_true c10)));refine jX [(3, 29, undef), (4, 30, undef), (5, 31, undef), (6, 32, undef), (7, 33, undef), (8, 34, .bool false)] ha fun a ha => ?_;refine jY (jJ ?_);refine jK ha rfl rfl ?_;refine wp_skip (jJ (wp_seq (wp_seq (jQ [0, 1] (jX [(0, 39, iv (idxI o (max n (-n)))), (1, 40, .bool (decide ((idxI o (max n (-n))) ≥ 0)))] ha fun a ha => ?_)))));refine jY (jJ ?_)
   by_cases c11 : (idxI o (max n (-n))) ≥ 0
   ·
    refine jW ha rfl (decide_eq_true c11) ?_;refine jQ [0, 1, 2, 3, 4, 5, 6] (jX [(0, 41, .slice so.A so.n so.c)] ha fun a ha => ?_);have hlen_ : (o).length ≤ 1000000 := by omega
    refine jZ (jG 42 (vs := [.slice so.A so.n so.c]) ha (clone_sat hS (hS.rdRows (s := so) (l := o) 2 rfl hso) hlen_) fun v13 w a hp14 ha => ?_);obtain ⟨s12, rfl, hS⟩ := hp14;refine jX [(2, 43, iv (idxI o (max n (-n)))), (3, 44, iv (idxI o (max n (-n))))] ha fun a ha => ?_;refine qZ 45 ((idxI o (max n (-n))) + 1) ha fun a ha => ?_;replace hS : Sat w0 w ((rI s12 o) :: (SX.row (.slice v5.A v5.n v5.c) 37 1 (SX.encS outs)) :: (rI v6 fs) :: (rowsI 3 us) :: []) := hS;have hin : (max n (-n)) ∈ o := idxI_mem.1 c11;have hidx : idxI o (max n (-n)) = (o.idxOf (max n (-n)) : Int) := if_pos hin;refine jZ (o_ret (Post := fun r w' => ∃ s' : Sl, r = s'.v ∧ Sat w0 w' ((rI s' (o.eraseIdx (o.idxOf (max n (-n))))) :: (SX.row (.slice v5.A v5.n v5.c) 37 1 (SX.encS outs)) :: (rI v6 fs) :: (rowsI 3 us) :: [])) ha (by decide) (xX (op := (Op.call { callee := (Callee.value (Operand.func 121)), args := #[(Operand.tmp 42), (Operand.tmp 43), (Operand.tmp 45)], argTypes := #[37, 3, 3] })) (d := some 46) (ty := 37)) rfl Try.func121 (by kernel_rfl) (by rw [hidx]; exact delete_sat hS _ (List.idxOf_lt_length_of_mem hin) (by omega)) (fun v16 w a hp17 ha => ?_));obtain ⟨s15, rfl, hS⟩ := hp17;have ha : Has 61 [(13, .slice s0.A s0.n s0.c), (14, iv (s0.n : Int)), (15, iv (i : Int)), (4, .slice so.A so.n so.c), (5, .slice v5.A v5.n v5.c), (6, .slice v6.A v6.n v6.c), (16, .bool (decide ((i : Int) < (s0.n : Int)))), (17, iv (i : Int)), (18, .pointer (some ⟨bk s0, of_ s0 + i * 1, none⟩)), (19, iv n), (7, iv (i : Int)), (8, iv n), (20, .slice so.A so.n so.c), (21, iv n), (22, iv n), (23, iv (-n)), (24, iv (max n (-n))), (25, iv (idxI o (max n (-n)))), (9, iv (idxI o (max n (-n)))), (26, iv n), (27, .bool false), (28, .bool false), (29, undef), (30, undef), (31, undef), (32, undef), (33, undef), (34, .bool false), (39, iv (idxI o (max n (-n)))), (40, .bool (decide ((idxI o (max n (-n))) ≥ 0))), (41, .slice so.A so.n so.c), (42, .slice s12.A s12.n s12.c), (43, iv (idxI o (max n (-n)))), (44, iv (idxI o (max n (-n)))), (45, iv ((idxI o (max n (-n))) + 1)), (46, .slice s15.A s15.n s15.c)] a := ha.keeps [13, 14, 15, 4, 5, 6, 16, 17, 18, 19, 7, 8, 20, 21, 22, 23, 24, 25, 9, 26, 27, 28, 29, 30, 31, 32, 33, 34, 39, 40, 41, 42, 43, 44, 45, 46] _ rfl;refine jX [(6, 4, .slice s15.A s15.n s15.c)] ha fun a ha => ?_;refine jY (jJ (wp_seq (wp_seq (jQ [0, 1] (jX [(0, 47, iv n), (1, 48, .bool (decide (n > 0)))] ha fun a ha => ?_)))));refine jY (jJ ?_)
    by_cases c18 : n > 0
    ·
     refine jW ha rfl (decide_eq_true c18) ?_;refine jQ [0, 1, 2, 3, 4, 5] (jX [(0, 49, .slice s15.A s15.n s15.c)] ha fun a ha => ?_);have hlen_ : ((o.eraseIdx (o.idxOf (max n (-n))))).length ≤ 1000000 := by rw [List.length_eraseIdx]; split <;> omega
     refine jZ (jG 50 (vs := [.slice s15.A s15.n s15.c]) ha (clone_sat hS (hS.rdRow (s := s15) (l := (o.eraseIdx (o.idxOf (max n (-n))))) 0 rfl) hlen_) fun v20 w a hp21 ha => ?_);obtain ⟨s19, rfl, hS⟩ := hp21;refine jX [(2, 51, iv n)] ha fun a ha => ?_;refine jZ (qY 52 [iv n] 3 (fun b => .slice (some ⟨b, 0, none⟩) 1 1) ha hS fun b22 w a hb23 hS ha => ?_);refine jZ (o_ap 53 1 0 (SX.encI ((o.eraseIdx (o.idxOf (max n (-n)))) ++ [n])) ha hS rfl rfl (by rw [SX.encI_length]; simp; first | omega | (have hle_ := List.length_eraseIdx_le o (o.idxOf (max n (-n))); omega)) (encI_snoc _ _) fun s27 w a hS hn28 ha => ?_);refine jX [(5, 4, .slice s27.A s27.n s27.c)] ha fun a ha => ?_;refine jY (jJ (jQ [0, 1, 2, 3, 4] (jX [(0, 54, .slice v5.A v5.n v5.c), (1, 55, .slice s27.A s27.n s27.c)] ha fun a ha => ?_)));refine jZ (qY 56 [.slice s27.A s27.n s27.c] 37 (fun b => .slice (some ⟨b, 0, none⟩) 1 1) ha hS fun b29 w a hb30 hS ha => ?_);refine jZ (o_ap 57 4 0 (SX.encS (outs ++ [s27])) ha hS rfl rfl (by rw [encS_length]; simp; omega) (encS_snoc _ _) fun s34 w a hS hn35 ha => ?_);refine jX [(4, 5, .slice s34.A s34.n s34.c)] ha fun a ha => ?_;refine jY (in_n (jJ (jQ [0, 1] (qZ 58 ((i : Int) + 1) ha fun a ha => ?_))));refine jX [(1, 15, iv ((i : Int) + 1))] ha fun a ha => ?_;refine jY (jJ ?_);replace hS := hS.pickN 7 [3, 6, 2, 4, 5];replace hS : Sat w0 w ((rowsI 3 ((s15, (o.eraseIdx (o.idxOf (max n (-n))))) :: us)) :: (rI s27 ((o.eraseIdx (o.idxOf (max n (-n)))) ++ [n])) :: (SX.row (.slice s34.A s34.n s34.c) 37 1 (SX.encS (outs ++ [s27]))) :: (rI v6 fs) :: []) := Sat.gainRow hS;replace hS := hS.pickN 4 [1, 0, 2, 3];replace hS : Sat w0 w ((rowsI 3 ((s27, ((o.eraseIdx (o.idxOf (max n (-n)))) ++ [n])) :: ((s15, (o.eraseIdx (o.idxOf (max n (-n))))) :: us))) :: (SX.row (.slice s34.A s34.n s34.c) 37 1 (SX.encS (outs ++ [s27]))) :: (rI v6 fs) :: []) := Sat.gainRow hS;replace hS := hS.pickN 3 [1, 2, 0];have hmem_ : (s27, ((o.eraseIdx (o.idxOf (max n (-n)))) ++ [n])) ∈ ((s27, ((o.eraseIdx (o.idxOf (max n (-n)))) ++ [n])) :: ((s15, (o.eraseIdx (o.idxOf (max n (-n))))) :: us)) := List.mem_cons_self;have hstep : bkStep o n = ((o.eraseIdx (o.idxOf (max n (-n)))) ++ [n]) := by unfold bkStep; rw [if_pos c18]; rw [List.erase_eq_eraseIdx_of_idxOf rfl]
     have hbad : bkBad o n = false := by unfold bkBad; have hm : o.contains (max n (-n)) = true := List.contains_iff_mem.2 (idxI_mem.1 c11); rw [hm]; simp; omega
     have hdrop : l0.drop i = n :: l0.drop (i + 1) := by rw [List.drop_eq_getElem_cons hlt, hn0]; simp [List.getD, hlt]
     have hol2 : (((o.eraseIdx (o.idxOf (max n (-n)))) ++ [n])).length ≤ i + 1 := by rw [← hstep]; exact bkStep_length hol
     exact ⟨_, by omega, i + 1, ((o.eraseIdx (o.idxOf (max n (-n)))) ++ [n]), s27, ((s27, ((o.eraseIdx (o.idxOf (max n (-n)))) ++ [n])) :: ((s15, (o.eraseIdx (o.idxOf (max n (-n))))) :: us)), outs ++ [s27], outl ++ [((o.eraseIdx (o.idxOf (max n (-n)))) ++ [n])], fs, ⟨s34.A, s34.n, s34.c⟩, ⟨v6.A, v6.n, v6.c⟩, rfl, by omega, hmem_, hol2, by omega, by rw [List.zip_append hou.1]; exact ⟨by simp [hou.1], fun x hx => (List.mem_append.1 hx).elim (fun hx => have hx := hou.2 x hx; List.mem_cons_of_mem _ (List.mem_cons_of_mem _ (hx))) (fun hx => by rw [List.mem_singleton.1 hx]; exact hmem_)⟩, by rw [List.length_append, hon]; rfl, by rw [hdrop, bkOpens, hstep] at hop; rw [List.append_assoc]; exact hop, by rw [hdrop, bkFaults, hstep, hbad] at hfp; simpa using hfp, ha.keeps [13, 14, 15, 4, 5, 6] _ rfl, hS⟩
    refine jK ha rfl (decide_eq_false c18) ?_;refine wp_skip (jJ (jQ [0, 1, 2, 3, 4] (jX [(0, 54, .slice v5.A v5.n v5.c), (1, 55, .slice s15.A s15.n s15.c)] ha fun a ha => ?_)));refine jZ (qY 56 [.slice s15.A s15.n s15.c] 37 (fun b => .slice (some ⟨b, 0, none⟩) 1 1) ha hS fun b36 w a hb37 hS ha => ?_);refine jZ (o_ap 57 2 0 (SX.encS (outs ++ [s15])) ha hS rfl rfl (by rw [encS_length]; simp; omega) (encS_snoc _ _) fun s41 w a hS hn42 ha => ?_);refine jX [(4, 5, .slice s41.A s41.n s41.c)] ha fun a ha => ?_;refine jY (in_n (jJ (jQ [0, 1] (qZ 58 ((i : Int) + 1) ha fun a ha => ?_))));refine jX [(1, 15, iv ((i : Int) + 1))] ha fun a ha => ?_;refine jY (jJ ?_);replace hS := hS.pickN 5 [1, 4, 2, 3];replace hS : Sat w0 w ((rowsI 3 ((s15, (o.eraseIdx (o.idxOf (max n (-n))))) :: us)) :: (SX.row (.slice s41.A s41.n s41.c) 37 1 (SX.encS (outs ++ [s15]))) :: (rI v6 fs) :: []) := Sat.gainRow hS;replace hS := hS.pickN 3 [1, 2, 0];have hmem_ : (s15, (o.eraseIdx (o.idxOf (max n (-n))))) ∈ ((s15, (o.eraseIdx (o.idxOf (max n (-n))))) :: us) := List.mem_cons_self;have hstep : bkStep o n = (o.eraseIdx (o.idxOf (max n (-n)))) := by unfold bkStep; rw [if_neg c18]; rw [List.erase_eq_eraseIdx_of_idxOf rfl]
    have hbad : bkBad o n = false := by unfold bkBad; have hm : o.contains (max n (-n)) = true := List.contains_iff_mem.2 (idxI_mem.1 c11); rw [hm]; simp; omega
    have hdrop : l0.drop i = n :: l0.drop (i + 1) := by rw [List.drop_eq_getElem_cons hlt, hn0]; simp [List.getD, hlt]
    have hol2 : ((o.eraseIdx (o.idxOf (max n (-n))))).length ≤ i + 1 := by rw [← hstep]; exact bkStep_length hol
    exact ⟨_, by omega, i + 1, (o.eraseIdx (o.idxOf (max n (-n)))), s15, ((s15, (o.eraseIdx (o.idxOf (max n (-n))))) :: us), outs ++ [s15], outl ++ [(o.eraseIdx (o.idxOf (max n (-n))))], fs, ⟨s41.A, s41.n, s41.c⟩, ⟨v6.A, v6.n, v6.c⟩, rfl, by omega, hmem_, hol2, by omega, by rw [List.zip_append hou.1]; exact ⟨by simp [hou.1], fun x hx => (List.mem_append.1 hx).elim (fun hx => have hx := hou.2 x hx; List.mem_cons_of_mem _ (hx)) (fun hx => by rw [List.mem_singleton.1 hx]; exact hmem_)⟩, by rw [List.length_append, hon]; rfl, by rw [hdrop, bkOpens, hstep] at hop; rw [List.append_assoc]; exact hop, by rw [hdrop, bkFaults, hstep, hbad] at hfp; simpa using hfp, ha.keeps [13, 14, 15, 4, 5, 6] _ rfl, hS⟩
   refine jK ha rfl (decide_eq_false c11) ?_;refine wp_skip (jJ (wp_seq (wp_seq (jQ [0, 1] (jX [(0, 47, iv n), (1, 48, .bool (decide (n > 0)))] ha fun a ha => ?_)))));refine jY (jJ ?_)
   by_cases c43 : n > 0
   ·
    refine jW ha rfl (decide_eq_true c43) ?_;refine jQ [0, 1, 2, 3, 4, 5] (jX [(0, 49, .slice so.A so.n so.c)] ha fun a ha => ?_);have hlen_ : (o).length ≤ 1000000 := by omega
    refine jZ (jG 50 (vs := [.slice so.A so.n so.c]) ha (clone_sat hS (hS.rdRows (s := so) (l := o) 2 rfl hso) hlen_) fun v45 w a hp46 ha => ?_);obtain ⟨s44, rfl, hS⟩ := hp46;refine jX [(2, 51, iv n)] ha fun a ha => ?_;refine jZ (qY 52 [iv n] 3 (fun b => .slice (some ⟨b, 0, none⟩) 1 1) ha hS fun b47 w a hb48 hS ha => ?_);refine jZ (o_ap 53 1 0 (SX.encI (o ++ [n])) ha hS rfl rfl (by rw [SX.encI_length]; simp; first | omega | (have hle_ := List.length_eraseIdx_le o (o.idxOf (max n (-n))); omega)) (encI_snoc _ _) fun s52 w a hS hn53 ha => ?_);refine jX [(5, 4, .slice s52.A s52.n s52.c)] ha fun a ha => ?_;refine jY (jJ (jQ [0, 1, 2, 3, 4] (jX [(0, 54, .slice v5.A v5.n v5.c), (1, 55, .slice s52.A s52.n s52.c)] ha fun a ha => ?_)));refine jZ (qY 56 [.slice s52.A s52.n s52.c] 37 (fun b => .slice (some ⟨b, 0, none⟩) 1 1) ha hS fun b54 w a hb55 hS ha => ?_);refine jZ (o_ap 57 3 0 (SX.encS (outs ++ [s52])) ha hS rfl rfl (by rw [encS_length]; simp; omega) (encS_snoc _ _) fun s59 w a hS hn60 ha => ?_);refine jX [(4, 5, .slice s59.A s59.n s59.c)] ha fun a ha => ?_;refine jY (in_n (jJ (jQ [0, 1] (qZ 58 ((i : Int) + 1) ha fun a ha => ?_))));refine jX [(1, 15, iv ((i : Int) + 1))] ha fun a ha => ?_;refine jY (jJ ?_);replace hS := hS.pickN 6 [2, 5, 3, 4];replace hS : Sat w0 w ((rowsI 3 ((s52, (o ++ [n])) :: us)) :: (SX.row (.slice s59.A s59.n s59.c) 37 1 (SX.encS (outs ++ [s52]))) :: (rI v6 fs) :: []) := Sat.gainRow hS;replace hS := hS.pickN 3 [1, 2, 0];have hmem_ : (s52, (o ++ [n])) ∈ ((s52, (o ++ [n])) :: us) := List.mem_cons_self;have hstep : bkStep o n = (o ++ [n]) := by unfold bkStep; rw [if_pos c43]; rw [List.erase_of_not_mem (fun h => c11 (idxI_mem.2 h))]
    have hbad : bkBad o n = false := by unfold bkBad; have hm : o.contains (max n (-n)) = false := Bool.eq_false_iff.2 fun h => c11 (idxI_mem.2 (List.contains_iff_mem.1 h)); rw [hm]; simp; omega
    have hdrop : l0.drop i = n :: l0.drop (i + 1) := by rw [List.drop_eq_getElem_cons hlt, hn0]; simp [List.getD, hlt]
    have hol2 : ((o ++ [n])).length ≤ i + 1 := by rw [← hstep]; exact bkStep_length hol
    exact ⟨_, by omega, i + 1, (o ++ [n]), s52, ((s52, (o ++ [n])) :: us), outs ++ [s52], outl ++ [(o ++ [n])], fs, ⟨s59.A, s59.n, s59.c⟩, ⟨v6.A, v6.n, v6.c⟩, rfl, by omega, hmem_, hol2, by omega, by rw [List.zip_append hou.1]; exact ⟨by simp [hou.1], fun x hx => (List.mem_append.1 hx).elim (fun hx => have hx := hou.2 x hx; List.mem_cons_of_mem _ (hx)) (fun hx => by rw [List.mem_singleton.1 hx]; exact hmem_)⟩, by rw [List.length_append, hon]; rfl, by rw [hdrop, bkOpens, hstep] at hop; rw [List.append_assoc]; exact hop, by rw [hdrop, bkFaults, hstep, hbad] at hfp; simpa using hfp, ha.keeps [13, 14, 15, 4, 5, 6] _ rfl, hS⟩
   refine jK ha rfl (decide_eq_false c43) ?_;refine wp_skip (jJ (jQ [0, 1, 2, 3, 4] (jX [(0, 54, .slice v5.A v5.n v5.c), (1, 55, .slice so.A so.n so.c)] ha fun a ha => ?_)));refine jZ (qY 56 [.slice so.A so.n so.c] 37 (fun b => .slice (some ⟨b, 0, none⟩) 1 1) ha hS fun b61 w a hb62 hS ha => ?_);refine jZ (o_ap 57 1 0 (SX.encS (outs ++ [so])) ha hS rfl rfl (by rw [encS_length]; simp; omega) (encS_snoc _ _) fun s66 w a hS hn67 ha => ?_);refine jX [(4, 5, .slice s66.A s66.n s66.c)] ha fun a ha => ?_;refine jY (in_n (jJ (jQ [0, 1] (qZ 58 ((i : Int) + 1) ha fun a ha => ?_))));refine jX [(1, 15, iv ((i : Int) + 1))] ha fun a ha => ?_;refine jY (jJ ?_);replace hS := hS.pickN 4 [1, 2, 3];have hmem_ : (so, o) ∈ us := hso;have hstep : bkStep o n = o := by unfold bkStep; rw [if_neg c43]; rw [List.erase_of_not_mem (fun h => c11 (idxI_mem.2 h))]
   have hbad : bkBad o n = false := by unfold bkBad; have hm : o.contains (max n (-n)) = false := Bool.eq_false_iff.2 fun h => c11 (idxI_mem.2 (List.contains_iff_mem.1 h)); rw [hm]; simp; omega
   have hdrop : l0.drop i = n :: l0.drop (i + 1) := by rw [List.drop_eq_getElem_cons hlt, hn0]; simp [List.getD, hlt]
   have hol2 : (o).length ≤ i + 1 := by rw [← hstep]; exact bkStep_length hol
   exact ⟨_, by omega, i + 1, o, so, us, outs ++ [so], outl ++ [o], fs, ⟨s66.A, s66.n, s66.c⟩, ⟨v6.A, v6.n, v6.c⟩, rfl, by omega, hmem_, hol2, by omega, by rw [List.zip_append hou.1]; exact ⟨by simp [hou.1], fun x hx => (List.mem_append.1 hx).elim (fun hx => have hx := hou.2 x hx; hx) (fun hx => by rw [List.mem_singleton.1 hx]; exact hmem_)⟩, by rw [List.length_append, hon]; rfl, by rw [hdrop, bkOpens, hstep] at hop; rw [List.append_assoc]; exact hop, by rw [hdrop, bkFaults, hstep, hbad] at hfp; simpa using hfp, ha.keeps [13, 14, 15, 4, 5, 6] _ rfl, hS⟩
  replace ha := ha.turn 27 (.bool true) rfl (congrArg Value.bool (qH (decide_eq_false c10)))
  replace ha := ha.turn 28 (.bool true) rfl (congrArg Value.bool (qH (decide_eq_false c10)))
  refine jX [(3, 29, iv n), (4, 30, .bool (decide (n > 0))), (5, 31, iv (idxI o (max n (-n)))), (6, 32, .bool (decide ((idxI o (max n (-n))) ≥ 0)))] ha fun a ha => ?_
  by_cases c68 : n > 0
  ·
   replace ha := ha.turn 30 (.bool true) rfl (congrArg Value.bool (decide_eq_true c68))
   by_cases c69 : (idxI o (max n (-n))) ≥ 0
   ·
    replace ha := ha.turn 32 (.bool true) rfl (congrArg Value.bool (decide_eq_true c69));refine jX [(7, 33, .bool true), (8, 34, .bool true)] ha fun a ha => ?_;refine jY (jJ ?_);refine jW ha rfl rfl ?_;refine jQ [0, 1, 2, 3, 4] (jX [(0, 35, .slice v6.A v6.n v6.c), (1, 36, iv (i : Int))] ha fun a ha => ?_);refine jZ (qY 37 [iv (i : Int)] 3 (fun b => .slice (some ⟨b, 0, none⟩) 1 1) ha hS fun b70 w a hb71 hS ha => ?_);refine jZ (o_ap 38 2 0 (SX.encI (fs ++ [(i : Int)])) ha hS rfl rfl (by rw [SX.encI_length]; simp; omega) (encI_snoc _ _) fun s75 w a hS hn76 ha => ?_);refine jX [(4, 6, .slice s75.A s75.n s75.c)] ha fun a ha => ?_;refine jY (jJ (wp_seq (wp_seq (jQ [0, 1] (jX [(0, 39, iv (idxI o (max n (-n)))), (1, 40, .bool (decide ((idxI o (max n (-n))) ≥ 0)))] ha fun a ha => ?_)))));refine jY (jJ ?_);refine jW ha rfl (decide_eq_true c69) ?_;refine jQ [0, 1, 2, 3, 4, 5, 6] (jX [(0, 41, .slice so.A so.n so.c)] ha fun a ha => ?_);have hlen_ : (o).length ≤ 1000000 := by omega
    refine jZ (jG 42 (vs := [.slice so.A so.n so.c]) ha (clone_sat hS (hS.rdRows (s := so) (l := o) 3 rfl hso) hlen_) fun v78 w a hp79 ha => ?_);obtain ⟨s77, rfl, hS⟩ := hp79;refine jX [(2, 43, iv (idxI o (max n (-n)))), (3, 44, iv (idxI o (max n (-n))))] ha fun a ha => ?_;refine qZ 45 ((idxI o (max n (-n))) + 1) ha fun a ha => ?_;replace hS : Sat w0 w ((rI s77 o) :: (SX.blk b70 [iv (i : Int)] 3) :: (SX.row (.slice v5.A v5.n v5.c) 37 1 (SX.encS outs)) :: (rI s75 (fs ++ [(i : Int)])) :: (rowsI 3 us) :: []) := hS;have hin : (max n (-n)) ∈ o := idxI_mem.1 c69;have hidx : idxI o (max n (-n)) = (o.idxOf (max n (-n)) : Int) := if_pos hin;refine jZ (o_ret (Post := fun r w' => ∃ s' : Sl, r = s'.v ∧ Sat w0 w' ((rI s' (o.eraseIdx (o.idxOf (max n (-n))))) :: (SX.blk b70 [iv (i : Int)] 3) :: (SX.row (.slice v5.A v5.n v5.c) 37 1 (SX.encS outs)) :: (rI s75 (fs ++ [(i : Int)])) :: (rowsI 3 us) :: [])) ha (by decide) (xX (op := (Op.call { callee := (Callee.value (Operand.func 121)), args := #[(Operand.tmp 42), (Operand.tmp 43), (Operand.tmp 45)], argTypes := #[37, 3, 3] })) (d := some 46) (ty := 37)) rfl Try.func121 (by kernel_rfl) (by rw [hidx]; exact delete_sat hS _ (List.idxOf_lt_length_of_mem hin) (by omega)) (fun v81 w a hp82 ha => ?_));obtain ⟨s80, rfl, hS⟩ := hp82;have ha : Has 61 [(13, .slice s0.A s0.n s0.c), (14, iv (s0.n : Int)), (15, iv (i : Int)), (4, .slice so.A so.n so.c), (5, .slice v5.A v5.n v5.c), (16, .bool (decide ((i : Int) < (s0.n : Int)))), (17, iv (i : Int)), (18, .pointer (some ⟨bk s0, of_ s0 + i * 1, none⟩)), (19, iv n), (7, iv (i : Int)), (8, iv n), (20, .slice so.A so.n so.c), (21, iv n), (22, iv n), (23, iv (-n)), (24, iv (max n (-n))), (25, iv (idxI o (max n (-n)))), (9, iv (idxI o (max n (-n)))), (26, iv n), (27, .bool true), (28, .bool true), (29, iv n), (30, .bool true), (31, iv (idxI o (max n (-n)))), (32, .bool true), (33, .bool true), (34, .bool true), (35, .slice v6.A v6.n v6.c), (36, iv (i : Int)), (37, .slice (some ⟨b70, 0, none⟩) 1 1), (38, .slice s75.A s75.n s75.c), (6, .slice s75.A s75.n s75.c), (39, iv (idxI o (max n (-n)))), (40, .bool (decide ((idxI o (max n (-n))) ≥ 0))), (41, .slice so.A so.n so.c), (42, .slice s77.A s77.n s77.c), (43, iv (idxI o (max n (-n)))), (44, iv (idxI o (max n (-n)))), (45, iv ((idxI o (max n (-n))) + 1)), (46, .slice s80.A s80.n s80.c)] a := ha.keeps [13, 14, 15, 4, 5, 16, 17, 18, 19, 7, 8, 20, 21, 22, 23, 24, 25, 9, 26, 27, 28, 29, 30, 31, 32, 33, 34, 35, 36, 37, 38, 6, 39, 40, 41, 42, 43, 44, 45, 46] _ rfl;refine jX [(6, 4, .slice s80.A s80.n s80.c)] ha fun a ha => ?_;refine jY (jJ (wp_seq (wp_seq (jQ [0, 1] (jX [(0, 47, iv n), (1, 48, .bool (decide (n > 0)))] ha fun a ha => ?_)))));refine jY (jJ ?_);refine jW ha rfl (decide_eq_true c68) ?_;refine jQ [0, 1, 2, 3, 4, 5] (jX [(0, 49, .slice s80.A s80.n s80.c)] ha fun a ha => ?_);have hlen_ : ((o.eraseIdx (o.idxOf (max n (-n))))).length ≤ 1000000 := by rw [List.length_eraseIdx]; split <;> omega
    refine jZ (jG 50 (vs := [.slice s80.A s80.n s80.c]) ha (clone_sat hS (hS.rdRow (s := s80) (l := (o.eraseIdx (o.idxOf (max n (-n))))) 0 rfl) hlen_) fun v84 w a hp85 ha => ?_);obtain ⟨s83, rfl, hS⟩ := hp85;refine jX [(2, 51, iv n)] ha fun a ha => ?_;refine jZ (qY 52 [iv n] 3 (fun b => .slice (some ⟨b, 0, none⟩) 1 1) ha hS fun b86 w a hb87 hS ha => ?_);refine jZ (o_ap 53 1 0 (SX.encI ((o.eraseIdx (o.idxOf (max n (-n)))) ++ [n])) ha hS rfl rfl (by rw [SX.encI_length]; simp; first | omega | (have hle_ := List.length_eraseIdx_le o (o.idxOf (max n (-n))); omega)) (encI_snoc _ _) fun s91 w a hS hn92 ha => ?_);refine jX [(5, 4, .slice s91.A s91.n s91.c)] ha fun a ha => ?_;refine jY (jJ (jQ [0, 1, 2, 3, 4] (jX [(0, 54, .slice v5.A v5.n v5.c), (1, 55, .slice s91.A s91.n s91.c)] ha fun a ha => ?_)));refine jZ (qY 56 [.slice s91.A s91.n s91.c] 37 (fun b => .slice (some ⟨b, 0, none⟩) 1 1) ha hS fun b93 w a hb94 hS ha => ?_);refine jZ (o_ap 57 5 0 (SX.encS (outs ++ [s91])) ha hS rfl rfl (by rw [encS_length]; simp; omega) (encS_snoc _ _) fun s98 w a hS hn99 ha => ?_);refine jX [(4, 5, .slice s98.A s98.n s98.c)] ha fun a ha => ?_;refine jY (in_n (jJ (jQ [0, 1] (qZ 58 ((i : Int) + 1) ha fun a ha => ?_))));refine jX [(1, 15, iv ((i : Int) + 1))] ha fun a ha => ?_;refine jY (jJ ?_);replace hS := hS.pickN 8 [3, 7, 2, 5, 6];replace hS : Sat w0 w ((rowsI 3 ((s80, (o.eraseIdx (o.idxOf (max n (-n))))) :: us)) :: (rI s91 ((o.eraseIdx (o.idxOf (max n (-n)))) ++ [n])) :: (SX.row (.slice s98.A s98.n s98.c) 37 1 (SX.encS (outs ++ [s91]))) :: (rI s75 (fs ++ [(i : Int)])) :: []) := Sat.gainRow hS;replace hS := hS.pickN 4 [1, 0, 2, 3];replace hS : Sat w0 w ((rowsI 3 ((s91, ((o.eraseIdx (o.idxOf (max n (-n)))) ++ [n])) :: ((s80, (o.eraseIdx (o.idxOf (max n (-n))))) :: us))) :: (SX.row (.slice s98.A s98.n s98.c) 37 1 (SX.encS (outs ++ [s91]))) :: (rI s75 (fs ++ [(i : Int)])) :: []) := Sat.gainRow hS;replace hS := hS.pickN 3 [1, 2, 0];have hmem_ : (s91, ((o.eraseIdx (o.idxOf (max n (-n)))) ++ [n])) ∈ ((s91, ((o.eraseIdx (o.idxOf (max n (-n)))) ++ [n])) :: ((s80, (o.eraseIdx (o.idxOf (max n (-n))))) :: us)) := List.mem_cons_self;have hstep : bkStep o n = ((o.eraseIdx (o.idxOf (max n (-n)))) ++ [n]) := by unfold bkStep; rw [if_pos c68]; rw [List.erase_eq_eraseIdx_of_idxOf rfl]
    have hbad : bkBad o n = true := by unfold bkBad; have hm : o.contains (max n (-n)) = true := List.contains_iff_mem.2 (idxI_mem.1 c69); rw [hm]; simp; omega
    have hdrop : l0.drop i = n :: l0.drop (i + 1) := by rw [List.drop_eq_getElem_cons hlt, hn0]; simp [List.getD, hlt]
    have hol2 : (((o.eraseIdx (o.idxOf (max n (-n)))) ++ [n])).length ≤ i + 1 := by rw [← hstep]; exact bkStep_length hol
    exact ⟨_, by omega, i + 1, ((o.eraseIdx (o.idxOf (max n (-n)))) ++ [n]), s91, ((s91, ((o.eraseIdx (o.idxOf (max n (-n)))) ++ [n])) :: ((s80, (o.eraseIdx (o.idxOf (max n (-n))))) :: us)), outs ++ [s91], outl ++ [((o.eraseIdx (o.idxOf (max n (-n)))) ++ [n])], fs ++ [(i : Int)], ⟨s98.A, s98.n, s98.c⟩, ⟨s75.A, s75.n, s75.c⟩, rfl, by omega, hmem_, hol2, by rw [List.length_append]; simp; omega, by rw [List.zip_append hou.1]; exact ⟨by simp [hou.1], fun x hx => (List.mem_append.1 hx).elim (fun hx => have hx := hou.2 x hx; List.mem_cons_of_mem _ (List.mem_cons_of_mem _ (hx))) (fun hx => by rw [List.mem_singleton.1 hx]; exact hmem_)⟩, by rw [List.length_append, hon]; rfl, by rw [hdrop, bkOpens, hstep] at hop; rw [List.append_assoc]; exact hop, by rw [hdrop, bkFaults, hstep, hbad] at hfp; rw [List.append_assoc]; exact hfp, ha.keeps [13, 14, 15, 4, 5, 6] _ rfl, hS⟩
   replace ha := ha.turn 32 (.bool false) rfl (congrArg Value.bool (decide_eq_false c69));refine jX [(7, 33, .bool false), (8, 34, .bool false)] ha fun a ha => ?_;refine jY (jJ ?_);refine jK ha rfl rfl ?_;refine wp_skip (jJ (wp_seq (wp_seq (jQ [0, 1] (jX [(0, 39, iv (idxI o (max n (-n)))), (1, 40, .bool (decide ((idxI o (max n (-n))) ≥ 0)))] ha fun a ha => ?_)))));refine jY (jJ ?_);refine jK ha rfl (decide_eq_false c69) ?_;refine wp_skip (jJ (wp_seq (wp_seq (jQ [0, 1] (jX [(0, 47, iv n), (1, 48, .bool (decide (n > 0)))] ha fun a ha => ?_)))));refine jY (jJ ?_);refine jW ha rfl (decide_eq_true c68) ?_;refine jQ [0, 1, 2, 3, 4, 5] (jX [(0, 49, .slice so.A so.n so.c)] ha fun a ha => ?_);have hlen_ : (o).length ≤ 1000000 := by omega
   refine jZ (jG 50 (vs := [.slice so.A so.n so.c]) ha (clone_sat hS (hS.rdRows (s := so) (l := o) 2 rfl hso) hlen_) fun v101 w a hp102 ha => ?_);obtain ⟨s100, rfl, hS⟩ := hp102;refine jX [(2, 51, iv n)] ha fun a ha => ?_;refine jZ (qY 52 [iv n] 3 (fun b => .slice (some ⟨b, 0, none⟩) 1 1) ha hS fun b103 w a hb104 hS ha => ?_);refine jZ (o_ap 53 1 0 (SX.encI (o ++ [n])) ha hS rfl rfl (by rw [SX.encI_length]; simp; first | omega | (have hle_ := List.length_eraseIdx_le o (o.idxOf (max n (-n))); omega)) (encI_snoc _ _) fun s108 w a hS hn109 ha => ?_);refine jX [(5, 4, .slice s108.A s108.n s108.c)] ha fun a ha => ?_;refine jY (jJ (jQ [0, 1, 2, 3, 4] (jX [(0, 54, .slice v5.A v5.n v5.c), (1, 55, .slice s108.A s108.n s108.c)] ha fun a ha => ?_)));refine jZ (qY 56 [.slice s108.A s108.n s108.c] 37 (fun b => .slice (some ⟨b, 0, none⟩) 1 1) ha hS fun b110 w a hb111 hS ha => ?_);refine jZ (o_ap 57 3 0 (SX.encS (outs ++ [s108])) ha hS rfl rfl (by rw [encS_length]; simp; omega) (encS_snoc _ _) fun s115 w a hS hn116 ha => ?_);refine jX [(4, 5, .slice s115.A s115.n s115.c)] ha fun a ha => ?_;refine jY (in_n (jJ (jQ [0, 1] (qZ 58 ((i : Int) + 1) ha fun a ha => ?_))));refine jX [(1, 15, iv ((i : Int) + 1))] ha fun a ha => ?_;refine jY (jJ ?_);replace hS := hS.pickN 6 [2, 5, 3, 4];replace hS : Sat w0 w ((rowsI 3 ((s108, (o ++ [n])) :: us)) :: (SX.row (.slice s115.A s115.n s115.c) 37 1 (SX.encS (outs ++ [s108]))) :: (rI v6 fs) :: []) := Sat.gainRow hS;replace hS := hS.pickN 3 [1, 2, 0];have hmem_ : (s108, (o ++ [n])) ∈ ((s108, (o ++ [n])) :: us) := List.mem_cons_self;have hstep : bkStep o n = (o ++ [n]) := by unfold bkStep; rw [if_pos c68]; rw [List.erase_of_not_mem (fun h => c69 (idxI_mem.2 h))]
   have hbad : bkBad o n = false := by unfold bkBad; have hm : o.contains (max n (-n)) = false := Bool.eq_false_iff.2 fun h => c69 (idxI_mem.2 (List.contains_iff_mem.1 h)); rw [hm]; simp; omega
   have hdrop : l0.drop i = n :: l0.drop (i + 1) := by rw [List.drop_eq_getElem_cons hlt, hn0]; simp [List.getD, hlt]
   have hol2 : ((o ++ [n])).length ≤ i + 1 := by rw [← hstep]; exact bkStep_length hol
   exact ⟨_, by omega, i + 1, (o ++ [n]), s108, ((s108, (o ++ [n])) :: us), outs ++ [s108], outl ++ [(o ++ [n])], fs, ⟨s115.A, s115.n, s115.c⟩, ⟨v6.A, v6.n, v6.c⟩, rfl, by omega, hmem_, hol2, by omega, by rw [List.zip_append hou.1]; exact ⟨by simp [hou.1], fun x hx => (List.mem_append.1 hx).elim (fun hx => have hx := hou.2 x hx; List.mem_cons_of_mem _ (hx)) (fun hx => by rw [List.mem_singleton.1 hx]; exact hmem_)⟩, by rw [List.length_append, hon]; rfl, by rw [hdrop, bkOpens, hstep] at hop; rw [List.append_assoc]; exact hop, by rw [hdrop, bkFaults, hstep, hbad] at hfp; simpa using hfp, ha.keeps [13, 14, 15, 4, 5, 6] _ rfl, hS⟩
  replace ha := ha.turn 30 (.bool false) rfl (congrArg Value.bool (decide_eq_false c68))
  by_cases c117 : (idxI o (max n (-n))) ≥ 0
  ·
   replace ha := ha.turn 32 (.bool true) rfl (congrArg Value.bool (decide_eq_true c117));refine jX [(7, 33, .bool false), (8, 34, .bool false)] ha fun a ha => ?_;refine jY (jJ ?_);refine jK ha rfl rfl ?_;refine wp_skip (jJ (wp_seq (wp_seq (jQ [0, 1] (jX [(0, 39, iv (idxI o (max n (-n)))), (1, 40, .bool (decide ((idxI o (max n (-n))) ≥ 0)))] ha fun a ha => ?_)))));refine jY (jJ ?_);refine jW ha rfl (decide_eq_true c117) ?_;refine jQ [0, 1, 2, 3, 4, 5, 6] (jX [(0, 41, .slice so.A so.n so.c)] ha fun a ha => ?_);have hlen_ : (o).length ≤ 1000000 := by omega
   refine jZ (jG 42 (vs := [.slice so.A so.n so.c]) ha (clone_sat hS (hS.rdRows (s := so) (l := o) 2 rfl hso) hlen_) fun v119 w a hp120 ha => ?_);obtain ⟨s118, rfl, hS⟩ := hp120;refine jX [(2, 43, iv (idxI o (max n (-n)))), (3, 44, iv (idxI o (max n (-n))))] ha fun a ha => ?_;refine qZ 45 ((idxI o (max n (-n))) + 1) ha fun a ha => ?_;replace hS : Sat w0 w ((rI s118 o) :: (SX.row (.slice v5.A v5.n v5.c) 37 1 (SX.encS outs)) :: (rI v6 fs) :: (rowsI 3 us) :: []) := hS;have hin : (max n (-n)) ∈ o := idxI_mem.1 c117;have hidx : idxI o (max n (-n)) = (o.idxOf (max n (-n)) : Int) := if_pos hin;refine jZ (o_ret (Post := fun r w' => ∃ s' : Sl, r = s'.v ∧ Sat w0 w' ((rI s' (o.eraseIdx (o.idxOf (max n (-n))))) :: (SX.row (.slice v5.A v5.n v5.c) 37 1 (SX.encS outs)) :: (rI v6 fs) :: (rowsI 3 us) :: [])) ha (by decide) (xX (op := (Op.call { callee := (Callee.value (Operand.func 121)), args := #[(Operand.tmp 42), (Operand.tmp 43), (Operand.tmp 45)], argTypes := #[37, 3, 3] })) (d := some 46) (ty := 37)) rfl Try.func121 (by kernel_rfl) (by rw [hidx]; exact delete_sat hS _ (List.idxOf_lt_length_of_mem hin) (by omega)) (fun v122 w a hp123 ha => ?_));obtain ⟨s121, rfl, hS⟩ := hp123;have ha : Has 61 [(13, .slice s0.A s0.n s0.c), (14, iv (s0.n : Int)), (15, iv (i : Int)), (4, .slice so.A so.n so.c), (5, .slice v5.A v5.n v5.c), (6, .slice v6.A v6.n v6.c), (16, .bool (decide ((i : Int) < (s0.n : Int)))), (17, iv (i : Int)), (18, .pointer (some ⟨bk s0, of_ s0 + i * 1, none⟩)), (19, iv n), (7, iv (i : Int)), (8, iv n), (20, .slice so.A so.n so.c), (21, iv n), (22, iv n), (23, iv (-n)), (24, iv (max n (-n))), (25, iv (idxI o (max n (-n)))), (9, iv (idxI o (max n (-n)))), (26, iv n), (27, .bool true), (28, .bool true), (29, iv n), (30, .bool false), (31, iv (idxI o (max n (-n)))), (32, .bool true), (33, .bool false), (34, .bool false), (39, iv (idxI o (max n (-n)))), (40, .bool (decide ((idxI o (max n (-n))) ≥ 0))), (41, .slice so.A so.n so.c), (42, .slice s118.A s118.n s118.c), (43, iv (idxI o (max n (-n)))), (44, iv (idxI o (max n (-n)))), (45, iv ((idxI o (max n (-n))) + 1)), (46, .slice s121.A s121.n s121.c)] a := ha.keeps [13, 14, 15, 4, 5, 6, 16, 17, 18, 19, 7, 8, 20, 21, 22, 23, 24, 25, 9, 26, 27, 28, 29, 30, 31, 32, 33, 34, 39, 40, 41, 42, 43, 44, 45, 46] _ rfl;refine jX [(6, 4, .slice s121.A s121.n s121.c)] ha fun a ha => ?_;refine jY (jJ (wp_seq (wp_seq (jQ [0, 1] (jX [(0, 47, iv n), (1, 48, .bool (decide (n > 0)))] ha fun a ha => ?_)))));refine jY (jJ ?_);refine jK ha rfl (decide_eq_false c68) ?_;refine wp_skip (jJ (jQ [0, 1, 2, 3, 4] (jX [(0, 54, .slice v5.A v5.n v5.c), (1, 55, .slice s121.A s121.n s121.c)] ha fun a ha => ?_)));refine jZ (qY 56 [.slice s121.A s121.n s121.c] 37 (fun b => .slice (some ⟨b, 0, none⟩) 1 1) ha hS fun b124 w a hb125 hS ha => ?_);refine jZ (o_ap 57 2 0 (SX.encS (outs ++ [s121])) ha hS rfl rfl (by rw [encS_length]; simp; omega) (encS_snoc _ _) fun s129 w a hS hn130 ha => ?_);refine jX [(4, 5, .slice s129.A s129.n s129.c)] ha fun a ha => ?_
   refine jY (in_n (jJ (jQ [0, 1] (qZ 58 ((i : Int) + 1) ha fun a ha => ?_))));refine jX [(1, 15, iv ((i : Int) + 1))] ha fun a ha => ?_;refine jY (jJ ?_);replace hS := hS.pickN 5 [1, 4, 2, 3];replace hS : Sat w0 w ((rowsI 3 ((s121, (o.eraseIdx (o.idxOf (max n (-n))))) :: us)) :: (SX.row (.slice s129.A s129.n s129.c) 37 1 (SX.encS (outs ++ [s121]))) :: (rI v6 fs) :: []) := Sat.gainRow hS;replace hS := hS.pickN 3 [1, 2, 0];have hmem_ : (s121, (o.eraseIdx (o.idxOf (max n (-n))))) ∈ ((s121, (o.eraseIdx (o.idxOf (max n (-n))))) :: us) := List.mem_cons_self;have hstep : bkStep o n = (o.eraseIdx (o.idxOf (max n (-n)))) := by unfold bkStep; rw [if_neg c68]; rw [List.erase_eq_eraseIdx_of_idxOf rfl]
   have hbad : bkBad o n = false := by unfold bkBad; have hm : o.contains (max n (-n)) = true := List.contains_iff_mem.2 (idxI_mem.1 c117); rw [hm]; simp; omega
   have hdrop : l0.drop i = n :: l0.drop (i + 1) := by rw [List.drop_eq_getElem_cons hlt, hn0]; simp [List.getD, hlt]
   have hol2 : ((o.eraseIdx (o.idxOf (max n (-n))))).length ≤ i + 1 := by rw [← hstep]; exact bkStep_length hol
   exact ⟨_, by omega, i + 1, (o.eraseIdx (o.idxOf (max n (-n)))), s121, ((s121, (o.eraseIdx (o.idxOf (max n (-n))))) :: us), outs ++ [s121], outl ++ [(o.eraseIdx (o.idxOf (max n (-n))))], fs, ⟨s129.A, s129.n, s129.c⟩, ⟨v6.A, v6.n, v6.c⟩, rfl, by omega, hmem_, hol2, by omega, by rw [List.zip_append hou.1]; exact ⟨by simp [hou.1], fun x hx => (List.mem_append.1 hx).elim (fun hx => have hx := hou.2 x hx; List.mem_cons_of_mem _ (hx)) (fun hx => by rw [List.mem_singleton.1 hx]; exact hmem_)⟩, by rw [List.length_append, hon]; rfl, by rw [hdrop, bkOpens, hstep] at hop; rw [List.append_assoc]; exact hop, by rw [hdrop, bkFaults, hstep, hbad] at hfp; simpa using hfp, ha.keeps [13, 14, 15, 4, 5, 6] _ rfl, hS⟩
  replace ha := ha.turn 32 (.bool false) rfl (congrArg Value.bool (decide_eq_false c117))
  refine jX [(7, 33, .bool true), (8, 34, .bool true)] ha fun a ha => ?_
  refine jY (jJ ?_)
  refine jW ha rfl rfl ?_
  refine jQ [0, 1, 2, 3, 4] (jX [(0, 35, .slice v6.A v6.n v6.c), (1, 36, iv (i : Int))] ha fun a ha => ?_)
  refine jZ (qY 37 [iv (i : Int)] 3 (fun b => .slice (some ⟨b, 0, none⟩) 1 1) ha hS fun b131 w a hb132 hS ha => ?_)
  refine jZ (o_ap 38 2 0 (SX.encI (fs ++ [(i : Int)])) ha hS rfl rfl (by rw [SX.encI_length]; simp; omega) (encI_snoc _ _) fun s136 w a hS hn137 ha => ?_)
  refine jX [(4, 6, .slice s136.A s136.n s136.c)] ha fun a ha => ?_
  refine jY (jJ (wp_seq (wp_seq (jQ [0, 1] (jX [(0, 39, iv (idxI o (max n (-n)))), (1, 40, .bool (decide ((idxI o (max n (-n))) ≥ 0)))] ha fun a ha => ?_)))))
  refine jY (jJ ?_)
  refine jK ha rfl (decide_eq_false c117) ?_
  refine wp_skip (jJ (wp_seq (wp_seq (jQ [0, 1] (jX [(0, 47, iv n), (1, 48, .bool (decide (n > 0)))] ha fun a ha => ?_)))))
  refine jY (jJ ?_)
  refine jK ha rfl (decide_eq_false c68) ?_
  refine wp_skip (jJ (jQ [0, 1, 2, 3, 4] (jX [(0, 54, .slice v5.A v5.n v5.c), (1, 55, .slice so.A so.n so.c)] ha fun a ha => ?_)))
  refine jZ (qY 56 [.slice so.A so.n so.c] 37 (fun b => .slice (some ⟨b, 0, none⟩) 1 1) ha hS fun b138 w a hb139 hS ha => ?_)
  refine jZ (o_ap 57 2 0 (SX.encS (outs ++ [so])) ha hS rfl rfl (by rw [encS_length]; simp; omega) (encS_snoc _ _) fun s143 w a hS hn144 ha => ?_)
  refine jX [(4, 5, .slice s143.A s143.n s143.c)] ha fun a ha => ?_
  refine jY (in_n (jJ (jQ [0, 1] (qZ 58 ((i : Int) + 1) ha fun a ha => ?_))))
  refine jX [(1, 15, iv ((i : Int) + 1))] ha fun a ha => ?_
  refine jY (jJ ?_)
  replace hS := hS.pickN 5 [2, 3, 4]
  have hmem_ : (so, o) ∈ us := hso
  have hstep : bkStep o n = o := by unfold bkStep; rw [if_neg c68]; rw [List.erase_of_not_mem (fun h => c117 (idxI_mem.2 h))]
  have hbad : bkBad o n = true := by unfold bkBad; have hm : o.contains (max n (-n)) = false := Bool.eq_false_iff.2 fun h => c117 (idxI_mem.2 (List.contains_iff_mem.1 h)); rw [hm]; simp; omega
  have hdrop : l0.drop i = n :: l0.drop (i + 1) := by rw [List.drop_eq_getElem_cons hlt, hn0]; simp [List.getD, hlt]
  have hol2 : (o).length ≤ i + 1 := by rw [← hstep]; exact bkStep_length hol
  exact ⟨_, by omega, i + 1, o, so, us, outs ++ [so], outl ++ [o], fs ++ [(i : Int)], ⟨s143.A, s143.n, s143.c⟩, ⟨s136.A, s136.n, s136.c⟩, rfl, by omega, hmem_, hol2, by rw [List.length_append]; simp; omega, by rw [List.zip_append hou.1]; exact ⟨by simp [hou.1], fun x hx => (List.mem_append.1 hx).elim (fun hx => have hx := hou.2 x hx; hx) (fun hx => by rw [List.mem_singleton.1 hx]; exact hmem_)⟩, by rw [List.length_append, hon]; rfl, by rw [hdrop, bkOpens, hstep] at hop; rw [List.append_assoc]; exact hop, by rw [hdrop, bkFaults, hstep, hbad] at hfp; rw [List.append_assoc]; exact hfp, ha.keeps [13, 14, 15, 4, 5, 6] _ rfl, hS⟩
 have hend : l0.drop i = [] := List.drop_eq_nil_of_le (by have := c7; omega)
 refine jK ha rfl (decide_eq_false c7) ?_
 refine wp_exit (qJ (qJ (in_x (jJ (wp_seq (jQ [0, 1, 2, 3] (jX [(0, 59, .slice v5.A v5.n v5.c), (1, 60, .slice v6.A v6.n v6.c), (2, 2, .slice v5.A v5.n v5.c), (3, 3, .slice v6.A v6.n v6.c)] ha fun a ha => ?_)))))))
 refine jY (jJ (wp_ret ?_))
 refine end_tmp2 (t := 2) (u := 3) ha (by kernel_rfl) rfl rfl ?_
 have hfs : fs = bkFaults 0 [] l0 := by rw [hend] at hfp; simpa [bkFaults] using hfp
 exact ⟨v5, v6, outs, outl, us, rfl, hou, by rw [hend] at hop; simpa [bkOpens] using hop, hfs ▸ hS⟩
theorem code83 : Try.f83.body = some (Code.seq (cr Try.f83 0 false) (Code.seq (cr Try.f83 1 false) (Code.seq (Code.seq (cr Try.f83 2 false) (Code.block 0 (Code.loop (Code.seq (Code.seq (cr Try.f83 3 false) (Code.cond (Operand.tmp 13) Code.skip (Code.exit 0))) (Code.seq (Code.block 1 (Code.seq (cr Try.f83 5 true) (Code.seq (Code.seq (cr Try.f83 6 false) (Code.cond (Operand.tmp 30) (Code.exit 1) Code.skip)) (Code.seq (Code.seq (cr Try.f83 7 true) (Code.cond (Operand.tmp 39) (cr Try.f83 8 false) Code.skip)) (Code.seq (cr Try.f83 9 false) (Code.seq (cr Try.f83 10 false) (Code.cond (Operand.tmp 51) (cr Try.f83 11 false) Code.skip))))))) (cr Try.f83 4 false)))))) (Code.seq (cr Try.f83 12 false) Code.ret)))) := by kernel_rfl
theorem read_sat (w0 : World) (s0 : Sl) (l0 : List Int) (hr0 : RdI w0 s0 l0) (he : l0.length ≤ 60) (hb : ∀ x ∈ l0, -32767 ≤ x ∧ x ≤ 32767) :
  Calls Try.prog 83 #[.slice s0.A s0.n s0.c] w0 (Ret fun r w' => ∃ (v4 v5 : Sl), r = .tuple #[v4.v, v5.v] ∧ Sat w0 w' [SX.row v4.v 3 1 (SX.encI (l0.foldl bkStep [])), SX.row v5.v 3 1 (SX.encI (bkFaults 0 [] l0))]) := by
 have hS : Sat w0 w0 [] := Sat.start w0
 have hlen0 := hr0.len
 refine enter (n := 58) Try.func83 code83 (by kernel_rfl) (Nat.le_of_ble_eq_true rfl) (fun a ha => ?_)
 replace ha : Has 58 [(0, .slice s0.A s0.n s0.c)] a := ha
 refine wp_seq (jQ [0, 1] (jX [(0, 2, .slice none 0 0), (1, 3, .slice none 0 0)] ha fun a ha => ?_))
 refine jY (jJ (wp_seq (jQ [0, 1, 2, 3] (jZ (qY 8 [] 3 (fun b => .slice (some ⟨b, 0, none⟩) 0 0) ha hS fun b1 w a hb2 hS ha => ?_)))))
 refine jZ (qY 9 [] 3 (fun b => .slice (some ⟨b, 0, none⟩) 0 0) ha hS fun b3 w a hb4 hS ha => ?_)
 refine jX [(2, 4, .slice (some ⟨b1, 0, none⟩) 0 0), (3, 5, .slice (some ⟨b3, 0, none⟩) 0 0)] ha fun a ha => ?_
 refine jY (jJ (wp_seq (wp_seq (jQ [0] (jX [(0, 6, iv 0)] ha fun a ha => ?_)))))
 refine jY (jJ (wp_block ?_))
 replace hS := hS.pickN 2 [1, 0]
 replace hS : Sat w0 w ((SX.row (.slice (some ⟨b1, 0, none⟩) 0 0) 3 1 (SX.encI [])) :: (SX.blk b3 [] 3) :: []) := hS.shutRow (g := b1) (n := 0) (cap := 0) (T := 3) (sz := 1) (xs := []) (cur := []) 0 rfl rfl (Nat.le_refl _) (by decide) rfl
 replace hS : Sat w0 w ((SX.row (.slice (some ⟨b1, 0, none⟩) 0 0) 3 1 (SX.encI [])) :: (SX.row (.slice (some ⟨b3, 0, none⟩) 0 0) 3 1 (SX.encI [])) :: []) := hS.shutRow (g := b3) (n := 0) (cap := 0) (T := 3) (sz := 1) (xs := []) (cur := []) 1 rfl rfl (Nat.le_refl _) (by decide) rfl
 refine wp_loop_ghost (fun n_ a_ w_ => ∃ (i : Nat) (o : List Int) (fs : List Int) (v4 : Sl) (v5 : Sl), n_ = l0.length - i ∧ (i ≤ l0.length) ∧ (o.length ≤ i) ∧ (fs.length ≤ i) ∧ (∀ x ∈ o, 0 < x) ∧ (o.Nodup) ∧ ((l0.drop i).foldl bkStep o = l0.foldl bkStep []) ∧ (fs ++ bkFaults (i : Int) o (l0.drop i) = bkFaults 0 [] l0) ∧ Has 58 [(0, .slice s0.A s0.n s0.c), (4, .slice v4.A v4.n v4.c), (5, .slice v5.A v5.n v5.c), (6, iv (i : Int))] a_ ∧ Sat w0 w_ ((rI v4 o) :: (rI v5 fs) :: [])) _ ⟨0, [], [], ⟨some ⟨b1, 0, none⟩, 0, 0⟩, ⟨some ⟨b3, 0, none⟩, 0, 0⟩, rfl, Nat.zero_le _, Nat.le_refl _, Nat.le_refl _, (fun x hx => by cases hx), List.nodup_nil, rfl, rfl, ha.keeps [0, 4, 5, 6] _ rfl, hS⟩ ?_
 rintro n_ a w ⟨i, o, fs, v4, v5, rfl, hi, hol, hfl, hpo, hnd, hop, hfp, ha, hS⟩
 refine wp_seq (wp_seq (jQ [0, 1, 2, 3] (jX [(0, 10, iv (i : Int)), (1, 11, .slice s0.A s0.n s0.c), (2, 12, iv (s0.n : Int)), (3, 13, .bool (decide ((i : Int) < (s0.n : Int))))] ha fun a ha => ?_)))
 refine jY (jJ ?_)
 by_cases c5 : (i : Int) < (s0.n : Int)
 ·
  have hlt : i < l0.length := by have := c5; omega
  obtain ⟨n, hn0⟩ : ∃ n, n = l0.getD i 0 := ⟨_, rfl⟩
  have hn := hb n (by rw [hn0, List.getD_eq_getElem?_getD, List.getElem?_eq_getElem hlt]; exact List.getElem_mem hlt)
  refine jW ha rfl (decide_eq_true c5) ?_
  refine wp_skip (jJ (wp_seq (wp_block (wp_seq (yJ 11 11 (hS.pickN 2 []) hS fun w hS => ?_)))))
  refine xJ (k := 9) [(0, 16, .slice s0.A s0.n s0.c), (1, 17, iv (i : Int))] ha (.inr (hS.pickN 2 [])) fun a ha => ?_
  refine xZ 2 (.pointer (some ⟨bk s0, of_ s0 + i * 1, none⟩)) ha (jH (el := 3) (sz := 1) (j := i) ha (qV (t := 37) (x := 16) (y := 17) (d := 18)) rfl rfl (by kernel_rfl) (by kernel_rfl) ((hr0.sat hS).at_ hlt).1 (by rw [((hr0.sat hS)).len]; exact hlt)) (.inr (hS.pickN 2 [])) fun a ha => ?_
  refine yQ 3 (iv n) ha (qQ (p := ⟨bk s0, of_ s0 + i * 1, none⟩) ha (qU (t := 3) (x := 18) (d := 19) (ty := 3)) rfl (by kernel_rfl) (fun w' hw => by rw [Nat.mul_one, hn0]; exact (((hr0.sat hw)).at_ hlt).2)) (hS.pickN 2 []) fun a ha => ?_
  refine xJ (k := 5) [(4, 20, .slice s0.A s0.n s0.c), (5, 21, iv (i : Int))] ha (.inr (hS.pickN 2 [])) fun a ha => ?_
  refine xZ 6 (.pointer (some ⟨bk s0, of_ s0 + i * 1, none⟩)) ha (jH (el := 3) (sz := 1) (j := i) ha (qV (t := 37) (x := 20) (y := 21) (d := 22)) rfl rfl (by kernel_rfl) (by kernel_rfl) ((hr0.sat hS).at_ hlt).1 (by rw [((hr0.sat hS)).len]; exact hlt)) (.inr (hS.pickN 2 [])) fun a ha => ?_
  refine yQ 7 (iv n) ha (qQ (p := ⟨bk s0, of_ s0 + i * 1, none⟩) ha (qU (t := 3) (x := 22) (d := 23) (ty := 3)) rfl (by kernel_rfl) (fun w' hw => by rw [Nat.mul_one, hn0]; exact (((hr0.sat hw)).at_ hlt).2)) (hS.pickN 2 []) fun a ha => ?_
  refine xZ 8 (iv (-n)) ha ((qW (v := .int .i64 (IntKind.i64.wrap (0 - n))) ha (xX (op := (Op.unOp UnOp.neg 3 (Operand.tmp 23))) (d := some 24) (ty := 3)) (by kernel_rfl) (fun _ => by kernel_rfl)).as (by rw [wrap_i64 (by omega) (by omega)]; exact congrArg _ (by omega))) (.inr (hS.pickN 2 [])) fun a ha => ?_
  refine yV 9 (jG 25 (vs := [iv n, iv (-n)]) ha (most_sat hS _ _) fun v6 w a hp7 ha => ?_)
  obtain ⟨rfl, hS⟩ := hp7
  refine ⟨.inr (hS.pickN 2 []), ?_⟩
  refine xJ (k := 0) [(10, 7, iv (max n (-n)))] ha (.inr (hS.pickN 2 [])) fun a ha => ?_
  refine xG (jJ (wp_seq (wp_seq (jQ [0, 1, 2, 3, 4] (jX [(0, 26, .slice s0.A s0.n s0.c), (1, 27, iv (i : Int))] ha fun a ha => ?_)))))
  refine jU (.pointer (some ⟨bk s0, of_ s0 + i * 1, none⟩)) ha (jH (el := 3) (sz := 1) (j := i) ha (qV (t := 37) (x := 26) (y := 27) (d := 28)) rfl rfl (by kernel_rfl) (by kernel_rfl) ((hr0.sat hS).at_ hlt).1 (by rw [((hr0.sat hS)).len]; exact hlt)) fun a ha => ?_
  refine jU (iv n) ha (qQ (p := ⟨bk s0, of_ s0 + i * 1, none⟩) ha (qU (t := 3) (x := 28) (d := 29) (ty := 3)) rfl (by kernel_rfl) (fun w' hw => by rw [hw, Nat.mul_one, hn0]; exact ((hr0.sat hS).at_ hlt).2)) fun a ha => ?_
  refine jX [(4, 30, .bool (decide (n = 0)))] ha fun a ha => ?_
  refine jY (jJ ?_)
  by_cases c8 : n = 0
  ·
   refine jW ha rfl (decide_eq_true c8) ?_;refine wp_exit (qJ (in_x (jJ (jQ [0, 1, 2] (jX [(0, 14, iv (i : Int))] ha fun a ha => ?_)))));refine qZ 15 ((i : Int) + 1) ha fun a ha => ?_;refine jX [(2, 6, iv ((i : Int) + 1))] ha fun a ha => ?_;refine jY (jJ ?_);replace hS : Sat w0 w ((rI v4 o) :: (rI v5 fs) :: []) := hS;have hdrop : l0.drop i = n :: l0.drop (i + 1) := by rw [List.drop_eq_getElem_cons hlt, hn0]; simp [List.getD, hlt]
   have hstep : o = bkStep o n := by rw [c8]; exact (bkStep_zero hpo).symm
   have hbad : bkBad o n = false := by rw [c8]; simp [bkBad]
   exact ⟨_, by omega, i + 1, o, fs, ⟨v4.A, v4.n, v4.c⟩, ⟨v5.A, v5.n, v5.c⟩, rfl, by omega, by rw [hstep]; exact bkStep_length hol, by omega, by rw [hstep]; exact bkStep_pos hpo, by rw [hstep]; exact bkStep_nodup hnd, by rw [hdrop, List.foldl_cons] at hop; rw [hstep]; exact hop, by rw [hdrop, bkFaults, hbad] at hfp; rw [hstep]; simpa using hfp, ha.keeps [0, 4, 5, 6] _ rfl, hS⟩
  refine jK ha rfl (decide_eq_false c8) ?_
  refine wp_skip (jJ (wp_seq (wp_seq (yJ 9 9 (hS.pickN 2 []) hS fun w hS => ?_))))
  refine xJ (k := 5) [(0, 31, .slice v4.A v4.n v4.c), (1, 32, iv (max n (-n))), (3, 34, .slice s0.A s0.n s0.c), (4, 35, iv (i : Int))] ha (.inr (hS.pickN 2 [])) fun a ha => ?_
  refine xZ 5 (.pointer (some ⟨bk s0, of_ s0 + i * 1, none⟩)) ha (jH (el := 3) (sz := 1) (j := i) ha (qV (t := 37) (x := 34) (y := 35) (d := 36)) rfl rfl (by kernel_rfl) (by kernel_rfl) ((hr0.sat hS).at_ hlt).1 (by rw [((hr0.sat hS)).len]; exact hlt)) (.inr (hS.pickN 2 [])) fun a ha => ?_
  refine yQ 6 (iv n) ha (qQ (p := ⟨bk s0, of_ s0 + i * 1, none⟩) ha (qU (t := 3) (x := 36) (d := 37) (ty := 3)) rfl (by kernel_rfl) (fun w' hw => by rw [Nat.mul_one, hn0]; exact (((hr0.sat hw)).at_ hlt).2)) (hS.pickN 2 []) fun a ha => ?_
  refine xJ (k := 2) [(7, 38, .bool (decide (n > 0)))] ha (.inr (hS.pickN 2 [])) fun a ha => ?_
  refine yV 2 (jG 33 (vs := [.slice v4.A v4.n v4.c, iv (max n (-n))]) ha (has_sat hS (hS.rdRow (s := v4) (l := o) 0 rfl) (by omega) _) fun v9 w a hp10 ha => ?_)
  obtain ⟨rfl, hS⟩ := hp10
  refine ⟨.inr (hS.pickN 2 []), ?_⟩
  rcases Bool.eq_false_or_eq_true (o.contains (max n (-n))) with c11 | c11
  ·
   replace ha := ha.turn 33 (.bool true) rfl (congrArg Value.bool c11)
   by_cases c12 : n > 0
   ·
    replace ha := ha.turn 38 (.bool true) rfl (congrArg Value.bool (decide_eq_true c12));refine xJ (k := 0) [(8, 39, .bool true)] ha (.inr (hS.pickN 2 [])) fun a ha => ?_;refine xG (jJ ?_);refine jW ha rfl rfl ?_;refine jQ [0, 1, 2, 3, 4] (jX [(0, 40, .slice v5.A v5.n v5.c), (1, 41, iv (i : Int))] ha fun a ha => ?_);refine jZ (qY 42 [iv (i : Int)] 3 (fun b => .slice (some ⟨b, 0, none⟩) 1 1) ha hS fun b13 w a hb14 hS ha => ?_);refine jZ (o_ap 43 2 0 (SX.encI (fs ++ [(i : Int)])) ha hS rfl rfl (by rw [SX.encI_length]; simp; omega) (encI_snoc _ _) fun s18 w a hS hn19 ha => ?_);refine jX [(4, 5, .slice s18.A s18.n s18.c)] ha fun a ha => ?_;refine jY (jJ (wp_seq (jQ [0, 1, 2, 3] (jX [(0, 44, .slice v4.A v4.n v4.c), (1, 45, iv (max n (-n)))] ha fun a ha => ?_))));refine jZ (jG 46 (vs := [.slice v4.A v4.n v4.c, iv (max n (-n))]) ha (drop_sat hS (hS.rdRow (s := v4) (l := o) 1 rfl) (by omega) _) fun v21 w a hp22 ha => ?_);obtain ⟨s20, rfl, hS⟩ := hp22;refine jX [(3, 4, .slice s20.A s20.n s20.c)] ha fun a ha => ?_;refine jY (jJ (wp_seq (jQ [0, 1, 2, 3, 4] (jX [(0, 47, .slice s0.A s0.n s0.c), (1, 48, iv (i : Int))] ha fun a ha => ?_))));refine jU (.pointer (some ⟨bk s0, of_ s0 + i * 1, none⟩)) ha (jH (el := 3) (sz := 1) (j := i) ha (qV (t := 37) (x := 47) (y := 48) (d := 49)) rfl rfl (by kernel_rfl) (by kernel_rfl) ((hr0.sat hS).at_ hlt).1 (by rw [((hr0.sat hS)).len]; exact hlt)) fun a ha => ?_;refine jU (iv n) ha (qQ (p := ⟨bk s0, of_ s0 + i * 1, none⟩) ha (qU (t := 3) (x := 49) (d := 50) (ty := 3)) rfl (by kernel_rfl) (fun w' hw => by rw [hw, Nat.mul_one, hn0]; exact ((hr0.sat hS).at_ hlt).2)) fun a ha => ?_;refine jX [(4, 51, .bool (decide (n > 0)))] ha fun a ha => ?_;refine jY (jJ ?_);refine jW ha rfl (decide_eq_true c12) ?_;refine jQ [0, 1, 2, 3, 4] (jX [(0, 52, .slice s20.A s20.n s20.c), (1, 53, iv (max n (-n)))] ha fun a ha => ?_);refine jZ (qY 54 [iv (max n (-n))] 3 (fun b => .slice (some ⟨b, 0, none⟩) 1 1) ha hS fun b23 w a hb24 hS ha => ?_);refine jZ (o_ap 55 1 0 (SX.encI ((o.filter (fun y => y != max n (-n))) ++ [(max n (-n))])) ha hS rfl rfl (by rw [SX.encI_length]; have hle_ := List.length_filter_le (fun y => y != max n (-n)) o; simp only [List.length_cons, List.length_nil]; omega) (encI_snoc _ _) fun s28 w a hS hn29 ha => ?_);refine jX [(4, 4, .slice s28.A s28.n s28.c)] ha fun a ha => ?_;refine jY (in_n (jJ (jQ [0, 1, 2] (jX [(0, 14, iv (i : Int))] ha fun a ha => ?_))));refine qZ 15 ((i : Int) + 1) ha fun a ha => ?_;refine jX [(2, 6, iv ((i : Int) + 1))] ha fun a ha => ?_;refine jY (jJ ?_);replace hS := hS.pickN 5 [1, 4];have hdrop : l0.drop i = n :: l0.drop (i + 1) := by rw [List.drop_eq_getElem_cons hlt, hn0]; simp [List.getD, hlt]
    have hstep : ((o.filter (fun y => y != max n (-n))) ++ [(max n (-n))]) = bkStep o n := bkStep_eq1 c12 hnd;have hbad : bkBad o n = true := by unfold bkBad; rw [c11]; simp; omega
    exact ⟨_, by omega, i + 1, ((o.filter (fun y => y != max n (-n))) ++ [(max n (-n))]), (fs ++ [(i : Int)]), ⟨s28.A, s28.n, s28.c⟩, ⟨s18.A, s18.n, s18.c⟩, rfl, by omega, by rw [hstep]; exact bkStep_length hol, by rw [List.length_append]; simp; omega, by rw [hstep]; exact bkStep_pos hpo, by rw [hstep]; exact bkStep_nodup hnd, by rw [hdrop, List.foldl_cons] at hop; rw [hstep]; exact hop, by rw [hdrop, bkFaults, hbad] at hfp; rw [hstep]; rw [List.append_assoc]; exact hfp, ha.keeps [0, 4, 5, 6] _ rfl, hS⟩
   replace ha := ha.turn 38 (.bool false) rfl (congrArg Value.bool (decide_eq_false c12));refine xJ (k := 0) [(8, 39, .bool false)] ha (.inr (hS.pickN 2 [])) fun a ha => ?_;refine xG (jJ ?_);refine jK ha rfl rfl ?_;refine wp_skip (jJ (wp_seq (jQ [0, 1, 2, 3] (jX [(0, 44, .slice v4.A v4.n v4.c), (1, 45, iv (max n (-n)))] ha fun a ha => ?_))));refine jZ (jG 46 (vs := [.slice v4.A v4.n v4.c, iv (max n (-n))]) ha (drop_sat hS (hS.rdRow (s := v4) (l := o) 0 rfl) (by omega) _) fun v31 w a hp32 ha => ?_);obtain ⟨s30, rfl, hS⟩ := hp32;refine jX [(3, 4, .slice s30.A s30.n s30.c)] ha fun a ha => ?_;refine jY (jJ (wp_seq (jQ [0, 1, 2, 3, 4] (jX [(0, 47, .slice s0.A s0.n s0.c), (1, 48, iv (i : Int))] ha fun a ha => ?_))));refine jU (.pointer (some ⟨bk s0, of_ s0 + i * 1, none⟩)) ha (jH (el := 3) (sz := 1) (j := i) ha (qV (t := 37) (x := 47) (y := 48) (d := 49)) rfl rfl (by kernel_rfl) (by kernel_rfl) ((hr0.sat hS).at_ hlt).1 (by rw [((hr0.sat hS)).len]; exact hlt)) fun a ha => ?_;refine jU (iv n) ha (qQ (p := ⟨bk s0, of_ s0 + i * 1, none⟩) ha (qU (t := 3) (x := 49) (d := 50) (ty := 3)) rfl (by kernel_rfl) (fun w' hw => by rw [hw, Nat.mul_one, hn0]; exact ((hr0.sat hS).at_ hlt).2)) fun a ha => ?_;refine jX [(4, 51, .bool (decide (n > 0)))] ha fun a ha => ?_;refine jY (jJ ?_);refine jK ha rfl (decide_eq_false c12) ?_;refine wp_skip (in_n (jJ (jQ [0, 1, 2] (jX [(0, 14, iv (i : Int))] ha fun a ha => ?_))));refine qZ 15 ((i : Int) + 1) ha fun a ha => ?_;refine jX [(2, 6, iv ((i : Int) + 1))] ha fun a ha => ?_;refine jY (jJ ?_);replace hS := hS.pickN 3 [0, 2];have hdrop : l0.drop i = n :: l0.drop (i + 1) := by rw [List.drop_eq_getElem_cons hlt, hn0]; simp [List.getD, hlt]
   have hstep : (o.filter (fun y => y != max n (-n))) = bkStep o n := bkStep_eq2 c12 hnd;have hbad : bkBad o n = false := by unfold bkBad; rw [c11]; simp; omega
   exact ⟨_, by omega, i + 1, (o.filter (fun y => y != max n (-n))), fs, ⟨s30.A, s30.n, s30.c⟩, ⟨v5.A, v5.n, v5.c⟩, rfl, by omega, by rw [hstep]; exact bkStep_length hol, by omega, by rw [hstep]; exact bkStep_pos hpo, by rw [hstep]; exact bkStep_nodup hnd, by rw [hdrop, List.foldl_cons] at hop; rw [hstep]; exact hop, by rw [hdrop, bkFaults, hbad] at hfp; rw [hstep]; simpa using hfp, ha.keeps [0, 4, 5, 6] _ rfl, hS⟩
  replace ha := ha.turn 33 (.bool false) rfl (congrArg Value.bool c11)
  by_cases c33 : n > 0
  ·
   replace ha := ha.turn 38 (.bool true) rfl (congrArg Value.bool (decide_eq_true c33));refine xJ (k := 0) [(8, 39, .bool false)] ha (.inr (hS.pickN 2 [])) fun a ha => ?_;refine xG (jJ ?_);refine jK ha rfl rfl ?_;refine wp_skip (jJ (wp_seq (jQ [0, 1, 2, 3] (jX [(0, 44, .slice v4.A v4.n v4.c), (1, 45, iv (max n (-n)))] ha fun a ha => ?_))));refine jZ (jG 46 (vs := [.slice v4.A v4.n v4.c, iv (max n (-n))]) ha (drop_sat hS (hS.rdRow (s := v4) (l := o) 0 rfl) (by omega) _) fun v35 w a hp36 ha => ?_);obtain ⟨s34, rfl, hS⟩ := hp36;refine jX [(3, 4, .slice s34.A s34.n s34.c)] ha fun a ha => ?_;refine jY (jJ (wp_seq (jQ [0, 1, 2, 3, 4] (jX [(0, 47, .slice s0.A s0.n s0.c), (1, 48, iv (i : Int))] ha fun a ha => ?_))));refine jU (.pointer (some ⟨bk s0, of_ s0 + i * 1, none⟩)) ha (jH (el := 3) (sz := 1) (j := i) ha (qV (t := 37) (x := 47) (y := 48) (d := 49)) rfl rfl (by kernel_rfl) (by kernel_rfl) ((hr0.sat hS).at_ hlt).1 (by rw [((hr0.sat hS)).len]; exact hlt)) fun a ha => ?_;refine jU (iv n) ha (qQ (p := ⟨bk s0, of_ s0 + i * 1, none⟩) ha (qU (t := 3) (x := 49) (d := 50) (ty := 3)) rfl (by kernel_rfl) (fun w' hw => by rw [hw, Nat.mul_one, hn0]; exact ((hr0.sat hS).at_ hlt).2)) fun a ha => ?_;refine jX [(4, 51, .bool (decide (n > 0)))] ha fun a ha => ?_;refine jY (jJ ?_);refine jW ha rfl (decide_eq_true c33) ?_;refine jQ [0, 1, 2, 3, 4] (jX [(0, 52, .slice s34.A s34.n s34.c), (1, 53, iv (max n (-n)))] ha fun a ha => ?_);refine jZ (qY 54 [iv (max n (-n))] 3 (fun b => .slice (some ⟨b, 0, none⟩) 1 1) ha hS fun b37 w a hb38 hS ha => ?_);refine jZ (o_ap 55 1 0 (SX.encI ((o.filter (fun y => y != max n (-n))) ++ [(max n (-n))])) ha hS rfl rfl (by rw [SX.encI_length]; have hle_ := List.length_filter_le (fun y => y != max n (-n)) o; simp only [List.length_cons, List.length_nil]; omega) (encI_snoc _ _) fun s42 w a hS hn43 ha => ?_);refine jX [(4, 4, .slice s42.A s42.n s42.c)] ha fun a ha => ?_;refine jY (in_n (jJ (jQ [0, 1, 2] (jX [(0, 14, iv (i : Int))] ha fun a ha => ?_))));refine qZ 15 ((i : Int) + 1) ha fun a ha => ?_;refine jX [(2, 6, iv ((i : Int) + 1))] ha fun a ha => ?_;refine jY (jJ ?_);replace hS := hS.pickN 4 [1, 3];have hdrop : l0.drop i = n :: l0.drop (i + 1) := by rw [List.drop_eq_getElem_cons hlt, hn0]; simp [List.getD, hlt]
   have hstep : ((o.filter (fun y => y != max n (-n))) ++ [(max n (-n))]) = bkStep o n := bkStep_eq1 c33 hnd;have hbad : bkBad o n = false := by unfold bkBad; rw [c11]; simp; omega
   exact ⟨_, by omega, i + 1, ((o.filter (fun y => y != max n (-n))) ++ [(max n (-n))]), fs, ⟨s42.A, s42.n, s42.c⟩, ⟨v5.A, v5.n, v5.c⟩, rfl, by omega, by rw [hstep]; exact bkStep_length hol, by omega, by rw [hstep]; exact bkStep_pos hpo, by rw [hstep]; exact bkStep_nodup hnd, by rw [hdrop, List.foldl_cons] at hop; rw [hstep]; exact hop, by rw [hdrop, bkFaults, hbad] at hfp; rw [hstep]; simpa using hfp, ha.keeps [0, 4, 5, 6] _ rfl, hS⟩
  replace ha := ha.turn 38 (.bool false) rfl (congrArg Value.bool (decide_eq_false c33))
  refine xJ (k := 0) [(8, 39, .bool true)] ha (.inr (hS.pickN 2 [])) fun a ha => ?_
  refine xG (jJ ?_)
  refine jW ha rfl rfl ?_
  refine jQ [0, 1, 2, 3, 4] (jX [(0, 40, .slice v5.A v5.n v5.c), (1, 41, iv (i : Int))] ha fun a ha => ?_)
  refine jZ (qY 42 [iv (i : Int)] 3 (fun b => .slice (some ⟨b, 0, none⟩) 1 1) ha hS fun b44 w a hb45 hS ha => ?_)
  refine jZ (o_ap 43 2 0 (SX.encI (fs ++ [(i : Int)])) ha hS rfl rfl (by rw [SX.encI_length]; simp; omega) (encI_snoc _ _) fun s49 w a hS hn50 ha => ?_)
  refine jX [(4, 5, .slice s49.A s49.n s49.c)] ha fun a ha => ?_
  refine jY (jJ (wp_seq (jQ [0, 1, 2, 3] (jX [(0, 44, .slice v4.A v4.n v4.c), (1, 45, iv (max n (-n)))] ha fun a ha => ?_))))
  refine jZ (jG 46 (vs := [.slice v4.A v4.n v4.c, iv (max n (-n))]) ha (drop_sat hS (hS.rdRow (s := v4) (l := o) 1 rfl) (by omega) _) fun v52 w a hp53 ha => ?_)
  obtain ⟨s51, rfl, hS⟩ := hp53
  refine jX [(3, 4, .slice s51.A s51.n s51.c)] ha fun a ha => ?_
  refine jY (jJ (wp_seq (jQ [0, 1, 2, 3, 4] (jX [(0, 47, .slice s0.A s0.n s0.c), (1, 48, iv (i : Int))] ha fun a ha => ?_))))
  refine jU (.pointer (some ⟨bk s0, of_ s0 + i * 1, none⟩)) ha (jH (el := 3) (sz := 1) (j := i) ha (qV (t := 37) (x := 47) (y := 48) (d := 49)) rfl rfl (by kernel_rfl) (by kernel_rfl) ((hr0.sat hS).at_ hlt).1 (by rw [((hr0.sat hS)).len]; exact hlt)) fun a ha => ?_
  refine jU (iv n) ha (qQ (p := ⟨bk s0, of_ s0 + i * 1, none⟩) ha (qU (t := 3) (x := 49) (d := 50) (ty := 3)) rfl (by kernel_rfl) (fun w' hw => by rw [hw, Nat.mul_one, hn0]; exact ((hr0.sat hS).at_ hlt).2)) fun a ha => ?_
  refine jX [(4, 51, .bool (decide (n > 0)))] ha fun a ha => ?_
  refine jY (jJ ?_)
  refine jK ha rfl (decide_eq_false c33) ?_
  refine wp_skip (in_n (jJ (jQ [0, 1, 2] (jX [(0, 14, iv (i : Int))] ha fun a ha => ?_))))
  refine qZ 15 ((i : Int) + 1) ha fun a ha => ?_
  refine jX [(2, 6, iv ((i : Int) + 1))] ha fun a ha => ?_
  refine jY (jJ ?_)
  replace hS := hS.pickN 4 [0, 3]
  have hdrop : l0.drop i = n :: l0.drop (i + 1) := by rw [List.drop_eq_getElem_cons hlt, hn0]; simp [List.getD, hlt]
  have hstep : (o.filter (fun y => y != max n (-n))) = bkStep o n := bkStep_eq2 c33 hnd
  have hbad : bkBad o n = true := by unfold bkBad; rw [c11]; simp; omega
  exact ⟨_, by omega, i + 1, (o.filter (fun y => y != max n (-n))), (fs ++ [(i : Int)]), ⟨s51.A, s51.n, s51.c⟩, ⟨s49.A, s49.n, s49.c⟩, rfl, by omega, by rw [hstep]; exact bkStep_length hol, by rw [List.length_append]; simp; omega, by rw [hstep]; exact bkStep_pos hpo, by rw [hstep]; exact bkStep_nodup hnd, by rw [hdrop, List.foldl_cons] at hop; rw [hstep]; exact hop, by rw [hdrop, bkFaults, hbad] at hfp; rw [hstep]; rw [List.append_assoc]; exact hfp, ha.keeps [0, 4, 5, 6] _ rfl, hS⟩
 have hend : l0.drop i = [] := List.drop_eq_nil_of_le (by have := c5; omega)
 refine jK ha rfl (decide_eq_false c5) ?_
 refine wp_exit (qJ (qJ (in_x (jJ (wp_seq (jQ [0, 1, 2, 3] (jX [(0, 56, .slice v4.A v4.n v4.c), (1, 57, .slice v5.A v5.n v5.c), (2, 2, .slice v4.A v4.n v4.c), (3, 3, .slice v5.A v5.n v5.c)] ha fun a ha => ?_)))))))
 refine jY (jJ (wp_ret ?_))
 have hfs : fs = bkFaults 0 [] l0 := by rw [hend] at hfp; simpa [bkFaults] using hfp
 have ho : o = l0.foldl bkStep [] := by rw [hend] at hop; exact hop
 refine end_tmp2 (t := 2) (u := 3) ha (by kernel_rfl) rfl rfl ?_
 exact ⟨v4, v5, rfl, ho ▸ hfs ▸ hS⟩
end Go.Proofs.Ytbgfiiehjaghiaa.G
