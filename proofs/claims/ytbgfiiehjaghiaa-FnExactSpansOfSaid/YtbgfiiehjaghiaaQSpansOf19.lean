/- What the claim FnExactSpansOf rests on, part 19 of 22; the last part proves it: for every input the law answers true, and its arguments read behind the call as before it. No condition. -/
import Derived.Shelf.Slices.Delete
import Derived.Shelf.Slices.Clone
import Derived.Lib.OwnBridge
import Derived.KernelRfl
import Derived.WalkKit
import Derived.Test.YtbgfiiehjaghiaaQSpansOf17
namespace Go.Proofs.YtbgfiiehjaghiaaW.PrintLast
end Go.Proofs.YtbgfiiehjaghiaaW.PrintLast
namespace Go.Proofs.YtbgfiiehjaghiaaW.PrintMore
end Go.Proofs.YtbgfiiehjaghiaaW.PrintMore
set_option linter.unusedSimpArgs false
set_option linter.unusedVariables false
set_option maxRecDepth 20000
set_option maxHeartbeats 1000000
namespace Go.Proofs.Ytbgfiiehjaghiaa.G
open Go.RowKit Go.Shelf Go.Lib Go.Proofs.YtbgfiiehjaghiaaW.PrintWords Go.Proofs.YtbgfiiehjaghiaaW.PrintLast Go.Proofs.YtbgfiiehjaghiaaW.PrintMore Go.Proofs.Ytbgfiiehjaghiaa.SX
def entryB (n : Int) : Bool := decide (-32767 ≤ n) && decide (n ≤ 32767)
def badE (l : List Int) : Bool := l.any fun n => !(entryB n)
def entriesB (l : List Int) : Bool := decide (l.length ≤ 60) && !(badE l)
def idxI (l : List Int) (x : Int) : Int := if x ∈ l then (l.idxOf x : Int) else -1
theorem idxI_le (l : List Int) (x : Int) : -1 ≤ idxI l x ∧ idxI l x ≤ l.length := by
  unfold idxI
  split
  · rename_i h
    have := List.idxOf_lt_length_of_mem h
    omega
  · omega
theorem idxI_no {l : List Int} {x : Int} (h : x ∉ l) : idxI l x = -1 := if_neg h
theorem idxI_yes {l : List Int} {x : Int} {i : Nat} (hi : l[i]? = some x) (hn : x ∉ l.take i) : idxI l x = (i : Int) := by
 have hlt := (List.getElem?_eq_some_iff.1 hi).1
 have hx := (List.getElem?_eq_some_iff.1 hi).2
 rw [idxI, if_pos (List.mem_of_getElem? hi)]
 congr 1
 have h1 : l = l.take i ++ l[i] :: l.drop (i + 1) := by
  rw [List.getElem_cons_drop hlt, List.take_append_drop]
 have h2 : (l.take i ++ l[i] :: l.drop (i + 1)).idxOf x = i := by
  rw [List.idxOf_append, if_neg hn, hx, List.idxOf_cons_self, List.length_take]
  omega
 rw [← h1] at h2
 exact h2
theorem bkT_not {l : List Int} {x y : Int} {i : Nat} (hi : l[i]? = some y) (hn : x ∉ l.take i) (h : ¬ x = y) : x ∉ l.take (i + 1) := by
 rw [List.take_add_one, hi]
 simp only [Option.toList, List.mem_append, List.mem_singleton]
 rintro (h1 | h1)
 · exact hn h1
 · exact h h1
theorem bkT_all {l : List Int} {x : Int} {i : Nat} (hi : l.length ≤ i) (hn : x ∉ l.take i) : x ∉ l := by rwa [List.take_of_length_le hi] at hn
theorem badE_yes {l : List Int} {n : Nat} {x : Int} (hx : l[n]? = some x) (h : entryB x = false) : badE l = true := by
 unfold badE; rw [List.any_eq_true]; exact ⟨x, List.mem_of_getElem? hx, by rw [h]; rfl⟩
theorem badE_no {l : List Int} {n : Nat} (h : ∀ (j : Nat) (x : Int), j < n → l[j]? = some x → entryB x = true) (hn : l.length ≤ n) : badE l = false := by
 unfold badE; rw [List.any_eq_false]; intro x hx
 obtain ⟨j, hj⟩ := List.getElem?_of_mem hx
 rw [h j x (by have := (List.getElem?_eq_some_iff.1 hj).1; omega) hj]; decide
theorem allE {l : List Int} {n : Nat} {y : Int} (hy : l[n]? = some y) (hall : ∀ (j : Nat) (x : Int), j < n → l[j]? = some x → entryB x = true) (h : entryB y = true) : ∀ (j : Nat) (x : Int), j < n + 1 → l[j]? = some x → entryB x = true := by
 intro j x hj hx
 by_cases he : j = n
 · subst he; rw [hy] at hx; cases hx; exact h
 · exact hall j x (by omega) hx
theorem entries_at {l : List Int} (h : entriesB l = true) : l.length ≤ 60 ∧ ∀ x ∈ l, -32767 ≤ x ∧ x ≤ 32767 := by
 simp only [entriesB, badE, Bool.and_eq_true, decide_eq_true_eq, Bool.not_eq_true', List.any_eq_false] at h
 refine ⟨h.1, fun x hx => ?_⟩
 have := h.2 x hx
 simpa [entryB] using this
end Go.Proofs.Ytbgfiiehjaghiaa.G
namespace Go.Proofs.Ytbgfiiehjaghiaa.G
open Go.RowKit Go.Proofs.Ytbgfiiehjaghiaa.SX Go.Proofs.YtbgfiiehjaghiaaW.PrintWords Go.Proofs.YtbgfiiehjaghiaaW.PrintLast Go.Proofs.YtbgfiiehjaghiaaW.PrintMore
theorem getD_of {l : List Int} {n : Nat} {x : Int} (h : l[n]? = some x) : l.getD n 0 = x := by rw [List.getD_eq_getElem?_getD, h]; rfl
theorem code91 : Try.f91.body = some (Code.seq (cr Try.f91 0 false) (Code.seq (Code.seq (cr Try.f91 1 false) (Code.block 0 (Code.loop (Code.seq (cr Try.f91 2 false) (Code.seq (Code.cond (Operand.tmp 9) Code.skip (Code.exit 0)) (Code.seq (Code.block 1 (Code.seq (cr Try.f91 3 false) (Code.seq (cr Try.f91 4 false) (Code.cond (Operand.tmp 16) (Code.seq (cr Try.f91 5 false) Code.ret) Code.skip)))) (cr Try.f91 6 false))))))) (Code.seq (cr Try.f91 7 false) Code.ret))) := by kernel_rfl
theorem bidx_sat0 {w0 : World} {se : Sl} {es : List Int} {x : Int} (hre : RdI w0 se es) :
  Calls Try.prog 91 #[.slice se.A se.n se.c, iv x] w0 (Ret fun r w' => r = .int .i64 (idxI es x) ∧ Sat w0 w' []) := by
 have hS : Sat w0 w0 [] := Sat.start w0
 have hel := hre.len
 have hbig := hre.big
 refine enter (n := 19) Try.func91 code91 (by kernel_rfl) (Nat.le_of_ble_eq_true rfl) (fun a ha => ?_)
 replace ha : Has 19 [(0, .slice se.A se.n se.c), (1, iv x)] a := ha
 refine wp_seq (jQ [0] (jX [(0, 4, iv 0)] ha fun a ha => ?_))
 refine jY (jJ (wp_seq (wp_seq (jQ [0, 1, 2] (jX [(0, 6, .slice se.A se.n se.c), (1, 7, iv (se.n : Int)), (2, 8, iv 0)] ha fun a ha => ?_)))))
 refine jY (jJ (wp_block ?_))
 refine wp_loop_ghost (fun n_ a_ w_ => ∃ (i : Nat), n_ = es.length - i ∧ (i ≤ es.length) ∧ (x ∉ es.take i) ∧ Has 19 [(0, .slice se.A se.n se.c), (1, iv x), (7, iv (se.n : Int)), (8, iv (i : Int))] a_ ∧ Sat w0 w_ ([])) _ ⟨0, rfl, Nat.zero_le _, by simp, ha.keeps [0, 1, 7, 8] _ rfl, hS⟩ ?_
 rintro n_ a w ⟨i, rfl, hi, hno, ha, hS⟩
 refine wp_seq (jQ [0] (jX [(0, 9, .bool (decide ((i : Int) < (se.n : Int))))] ha fun a ha => ?_))
 refine jY (jJ (wp_seq ?_))
 by_cases c1 : (i : Int) < (se.n : Int)
 ·
  have hlt : i < es.length := by omega
  obtain ⟨x9, hx9⟩ : ∃ x, es[i]? = some x := ⟨_, List.getElem?_eq_getElem hlt⟩
  refine jW ha rfl (decide_eq_true c1) ?_
  refine wp_skip (jJ (wp_seq (wp_block (wp_seq (jQ [0, 1] (jX [(0, 10, iv (i : Int)), (1, 5, iv (i : Int))] ha fun a ha => ?_))))))
  refine jY (jJ (wp_seq (jQ [0, 1, 2, 3, 4, 5] (jX [(0, 11, iv x), (1, 12, .slice se.A se.n se.c), (2, 13, iv (i : Int))] ha fun a ha => ?_))))
  refine jG (.pointer (some ⟨bk se, of_ se + i * 1, none⟩)) ha (qZ (el := 3) (sz := 1) (j := i) ha (qV (t := 37) (x := 12) (y := 13) (d := 14)) rfl rfl (by kernel_rfl) (by kernel_rfl) ((hre.sat hS).at_ ((List.getElem?_eq_some_iff.1 hx9).1)).1 (by rw [((hre.sat hS)).len]; exact (List.getElem?_eq_some_iff.1 hx9).1)) fun a ha => ?_
  refine jG (iv x9) ha (qW (p := ⟨bk se, of_ se + i * 1, none⟩) ha (xJ (t := 3) (x := 14) (d := 15) (ty := 3)) rfl (by kernel_rfl) (fun w' hw => by rw [hw, Nat.mul_one, ← getD_of hx9]; exact ((hre.sat hS).at_ ((List.getElem?_eq_some_iff.1 hx9).1)).2)) fun a ha => ?_
  refine jX [(5, 16, .bool (decide (x = x9)))] ha fun a ha => ?_
  refine jY (jJ ?_)
  by_cases c2 : x = x9
  ·
   refine jW ha rfl (decide_eq_true c2) ?_;refine wp_seq (jQ [0, 1] (jX [(0, 17, iv (i : Int)), (1, 4, iv (i : Int))] ha fun a ha => ?_));refine jY (jJ (wp_ret (in_r (qQ (qQ (in_r (qQ (jV ha (by kernel_rfl) (qJ (t := 4) ha rfl) ?_))))))));have hE : idxI es x = (i : Int) := idxI_yes (by rw [c2]; exact hx9) hno;rw [hE];exact ⟨rfl, hS⟩
  refine jZ ha rfl (decide_eq_false c2) ?_
  refine wp_skip (in_n (jJ (jQ [0, 1] (qK 18 ((i : Int) + 1) ha fun a ha => ?_))))
  refine jX [(1, 8, iv ((i : Int) + 1))] ha fun a ha => ?_
  refine jY (jJ ?_)
  exact ⟨_, by omega, i + 1, rfl, by omega, bkT_not hx9 hno c2, ha.keeps [0, 1, 7, 8] _ rfl, hS⟩
 refine jZ ha rfl (decide_eq_false c1) ?_
 refine wp_exit (jK (jK (in_x (jJ (wp_seq (jQ [0] (jX [(0, 4, iv (-1))] ha fun a ha => ?_)))))))
 refine jY (jJ (wp_ret (jV ha (by kernel_rfl) (qJ (t := 4) ha rfl) ?_)))
 have hE : idxI es x = (-1) := idxI_no (bkT_all (by omega) hno)
 rw [hE]
 exact ⟨rfl, hS⟩
theorem bidx_sat {w0 w : World} {Rs : List Asn} {se : Sl} {es : List Int} {x : Int} (hS : Sat w0 w Rs) (hre : RdI w se es) :
  Calls Try.prog 91 #[.slice se.A se.n se.c, iv x] w (Ret fun r w' => r = .int .i64 (idxI es x) ∧ Sat w0 w' Rs) := lift0 hS (bidx_sat0 hre)
theorem code82 : Try.f82.body = some (Code.seq (cr Try.f82 0 false) (Code.seq (Code.seq (cr Try.f82 1 false) (Code.block 0 (Code.loop (Code.seq (Code.seq (cr Try.f82 2 false) (Code.cond (Operand.tmp 7) Code.skip (Code.exit 0))) (Code.seq (Code.block 1 (Code.seq (cr Try.f82 4 false) (Code.cond (Operand.tmp 15) (Code.seq (cr Try.f82 5 false) Code.ret) Code.skip))) (cr Try.f82 3 false)))))) (Code.seq (cr Try.f82 6 false) Code.ret))) := by kernel_rfl
theorem good_sat0 {w0 : World} {se : Sl} {es : List Int} (hre : RdI w0 se es) :
  Calls Try.prog 82 #[.slice se.A se.n se.c] w0 (Ret fun r w' => r = .bool (entriesB es) ∧ Sat w0 w' []) := by
 have hS : Sat w0 w0 [] := Sat.start w0
 have hel := hre.len
 have hbig := hre.big
 refine enter (n := 19) Try.func82 code82 (by kernel_rfl) (Nat.le_of_ble_eq_true rfl) (fun a ha => ?_)
 replace ha : Has 19 [(0, .slice se.A se.n se.c)] a := ha
 refine wp_seq (jQ [0] (jX [(0, 2, .bool false)] ha fun a ha => ?_))
 refine jY (jJ (wp_seq (wp_seq (jQ [0] (jX [(0, 3, iv 0)] ha fun a ha => ?_)))))
 refine jY (jJ (wp_block ?_))
 refine wp_loop_ghost (fun n_ a_ w_ => ∃ (i : Nat), n_ = es.length - i ∧ (i ≤ es.length) ∧ (∀ (j : Nat) (x : Int), j < i → es[j]? = some x → entryB x = true) ∧ Has 19 [(0, .slice se.A se.n se.c), (3, iv (i : Int))] a_ ∧ Sat w0 w_ ([])) _ ⟨0, rfl, Nat.zero_le _, (fun j x hj => by omega), ha.keeps [0, 3] _ rfl, hS⟩ ?_
 rintro n_ a w ⟨i, rfl, hi, hall, ha, hS⟩
 refine wp_seq (wp_seq (jQ [0, 1, 2, 3] (jX [(0, 4, iv (i : Int)), (1, 5, .slice se.A se.n se.c), (2, 6, iv (se.n : Int)), (3, 7, .bool (decide ((i : Int) < (se.n : Int))))] ha fun a ha => ?_)))
 refine jY (jJ ?_)
 by_cases c1 : (i : Int) < (se.n : Int)
 ·
  have hlt : i < es.length := by omega
  obtain ⟨x9, hx9⟩ : ∃ x, es[i]? = some x := ⟨_, List.getElem?_eq_getElem hlt⟩
  refine jW ha rfl (decide_eq_true c1) ?_
  refine wp_skip (jJ (wp_seq (wp_block (wp_seq (jQ [0, 1, 2, 3, 4, 5] (jX [(0, 10, .slice se.A se.n se.c), (1, 11, iv (i : Int))] ha fun a ha => ?_))))))
  refine jG (.pointer (some ⟨bk se, of_ se + i * 1, none⟩)) ha (qZ (el := 3) (sz := 1) (j := i) ha (qV (t := 37) (x := 10) (y := 11) (d := 12)) rfl rfl (by kernel_rfl) (by kernel_rfl) ((hre.sat hS).at_ ((List.getElem?_eq_some_iff.1 hx9).1)).1 (by rw [((hre.sat hS)).len]; exact (List.getElem?_eq_some_iff.1 hx9).1)) fun a ha => ?_
  refine jG (iv x9) ha (qW (p := ⟨bk se, of_ se + i * 1, none⟩) ha (xJ (t := 3) (x := 12) (d := 13) (ty := 3)) rfl (by kernel_rfl) (fun w' hw => by rw [hw, Nat.mul_one, ← getD_of hx9]; exact ((hre.sat hS).at_ ((List.getElem?_eq_some_iff.1 hx9).1)).2)) fun a ha => ?_
  refine jU (qY 14 (vs := [iv x9, iv (-32767), iv 32767]) ha (q_in hS _ _ _) fun v2 w a hp3 ha => ?_)
  obtain ⟨rfl, hS⟩ := hp3
  refine jX [(5, 15, .bool (!((inB x9 (-32767) 32767))))] ha fun a ha => ?_
  refine jY (jJ ?_)
  rcases Bool.eq_false_or_eq_true (inB x9 (-32767) 32767) with c4 | c4
  ·
   refine jZ ha rfl (xQ c4) ?_;refine wp_skip (in_n (jJ (jQ [0, 1, 2] (jX [(0, 8, iv (i : Int))] ha fun a ha => ?_))));refine qK 9 ((i : Int) + 1) ha fun a ha => ?_;refine jX [(2, 3, iv ((i : Int) + 1))] ha fun a ha => ?_;refine jY (jJ ?_);exact ⟨_, by omega, i + 1, rfl, by omega, allE hx9 hall (show entryB x9 = true from c4), ha.keeps [0, 3] _ rfl, hS⟩
  refine jW ha rfl (xX c4) ?_
  refine wp_seq (jQ [0] (jX [(0, 2, .bool false)] ha fun a ha => ?_))
  refine jY (jJ (wp_ret (in_r (qQ (qQ (in_r (qQ (jV ha (by kernel_rfl) (qJ (t := 2) ha rfl) ?_))))))))
  have hB : badE es = true := badE_yes hx9 (show entryB x9 = false from c4)
  have hE : entriesB es = false := by unfold entriesB; rw [hB]; simp; try omega
  rw [hE]
  exact ⟨rfl, hS⟩
 refine jZ ha rfl (decide_eq_false c1) ?_
 refine wp_exit (jK (jK (in_x (jJ (wp_seq (jQ [0, 1, 2, 3] (jX [(0, 16, .slice se.A se.n se.c), (1, 17, iv (se.n : Int)), (2, 18, .bool (decide ((se.n : Int) ≤ 60))), (3, 2, .bool (decide ((se.n : Int) ≤ 60)))] ha fun a ha => ?_)))))))
 refine jY (jJ (wp_ret (jV ha (by kernel_rfl) (qJ (t := 2) ha rfl) ?_)))
 have hB : badE es = false := badE_no hall (by omega)
 have hE : entriesB es = decide ((se.n : Int) ≤ 60) := by unfold entriesB; rw [hB]; simp; try omega
 rw [hE]
 exact ⟨rfl, hS⟩
theorem good_sat {w0 w : World} {Rs : List Asn} {se : Sl} {es : List Int} (hS : Sat w0 w Rs) (hre : RdI w se es) :
  Calls Try.prog 82 #[.slice se.A se.n se.c] w (Ret fun r w' => r = .bool (entriesB es) ∧ Sat w0 w' Rs) := lift0 hS (good_sat0 hre)
theorem code120 : Try.f120.body = some (Code.seq (cr Try.f120 0 false) (Code.seq (cr Try.f120 1 false) Code.ret)) := by kernel_rfl
theorem ec_sat {w0 w : World} {Rs : List Asn} {x : Int} (hS : Sat w0 w Rs) :
  Calls Try.prog 120 #[.int .i64 x] w (Ret fun r w' => r = .bool (!(entryB x)) ∧ Sat w0 w' Rs) := by
 refine enter (n := 6) Try.func120 code120 (by kernel_rfl) (Nat.le_of_ble_eq_true rfl) (fun a ha => ?_)
 replace ha : Has 6 [(0, iv x)] a := ha
 refine wp_seq (jQ [0] (jX [(0, 2, .bool false)] ha fun a ha => ?_))
 refine jY (jJ (wp_seq (jQ [0, 1, 2, 3] (jX [(0, 3, iv x)] ha fun a ha => ?_))))
 refine jU (qY 4 (vs := [iv x, iv (-32767), iv 32767]) ha (in_sat hS _ _ _) fun v1 w a hp2 ha => ?_)
 obtain ⟨rfl, hS⟩ := hp2
 refine jX [(2, 5, .bool (!((inB x (-32767) 32767)))), (3, 2, .bool (!((inB x (-32767) 32767))))] ha fun a ha => ?_
 refine jY (jJ (wp_ret (jV ha (by kernel_rfl) (qJ (t := 2) ha rfl) ?_)))
 exact ⟨rfl, hS⟩
theorem code137 : Try.f137.body = some (Code.seq (cr Try.f137 0 false) (Code.seq (Code.seq (cr Try.f137 1 false) (Code.block 0 (Code.loop (Code.seq (cr Try.f137 2 false) (Code.seq (Code.cond (Operand.tmp 9) Code.skip (Code.exit 0)) (Code.seq (Code.block 1 (Code.seq (cr Try.f137 3 false) (Code.seq (cr Try.f137 4 false) (Code.cond (Operand.tmp 16) (Code.seq (cr Try.f137 5 false) Code.ret) Code.skip)))) (cr Try.f137 6 false))))))) (Code.seq (cr Try.f137 7 false) Code.ret))) := by kernel_rfl
theorem eidx_sat0 {w0 : World} {se : Sl} {es : List Int} (hre : RdI w0 se es) :
  Calls Try.prog 137 #[.slice se.A se.n se.c, (.func (.func 120) #[] #[])] w0 (Ret fun r w' => ∃ kx : Int, r = .int .i64 kx ∧ decide (kx ≥ 0) = badE es ∧ Sat w0 w' []) := by
 have hS : Sat w0 w0 [] := Sat.start w0
 have hel := hre.len
 have hbig := hre.big
 refine enter (n := 19) Try.func137 code137 (by kernel_rfl) (Nat.le_of_ble_eq_true rfl) (fun a ha => ?_)
 replace ha : Has 19 [(0, .slice se.A se.n se.c), (1, (.func (.func 120) #[] #[]))] a := ha
 refine wp_seq (jQ [0] (jX [(0, 4, iv 0)] ha fun a ha => ?_))
 refine jY (jJ (wp_seq (wp_seq (jQ [0, 1, 2] (jX [(0, 6, .slice se.A se.n se.c), (1, 7, iv (se.n : Int)), (2, 8, iv 0)] ha fun a ha => ?_)))))
 refine jY (jJ (wp_block ?_))
 refine wp_loop_ghost (fun n_ a_ w_ => ∃ (i : Nat), n_ = es.length - i ∧ (i ≤ es.length) ∧ (∀ (j : Nat) (x : Int), j < i → es[j]? = some x → entryB x = true) ∧ Has 19 [(0, .slice se.A se.n se.c), (1, (.func (.func 120) #[] #[])), (7, iv (se.n : Int)), (8, iv (i : Int))] a_ ∧ Sat w0 w_ ([])) _ ⟨0, rfl, Nat.zero_le _, (fun j x hj => by omega), ha.keeps [0, 1, 7, 8] _ rfl, hS⟩ ?_
 rintro n_ a w ⟨i, rfl, hi, hall, ha, hS⟩
 refine wp_seq (jQ [0] (jX [(0, 9, .bool (decide ((i : Int) < (se.n : Int))))] ha fun a ha => ?_))
 refine jY (jJ (wp_seq ?_))
 by_cases c1 : (i : Int) < (se.n : Int)
 ·
  have hlt : i < es.length := by omega
  obtain ⟨x9, hx9⟩ : ∃ x, es[i]? = some x := ⟨_, List.getElem?_eq_getElem hlt⟩
  refine jW ha rfl (decide_eq_true c1) ?_
  refine wp_skip (jJ (wp_seq (wp_block (wp_seq (jQ [0, 1] (jX [(0, 10, iv (i : Int)), (1, 5, iv (i : Int))] ha fun a ha => ?_))))))
  refine jY (jJ (wp_seq (jQ [0, 1, 2, 3, 4, 5] (jX [(0, 11, (.func (.func 120) #[] #[])), (1, 12, .slice se.A se.n se.c), (2, 13, iv (i : Int))] ha fun a ha => ?_))))
  refine jG (.pointer (some ⟨bk se, of_ se + i * 1, none⟩)) ha (qZ (el := 3) (sz := 1) (j := i) ha (qV (t := 37) (x := 12) (y := 13) (d := 14)) rfl rfl (by kernel_rfl) (by kernel_rfl) ((hre.sat hS).at_ ((List.getElem?_eq_some_iff.1 hx9).1)).1 (by rw [((hre.sat hS)).len]; exact (List.getElem?_eq_some_iff.1 hx9).1)) fun a ha => ?_
  refine jG (iv x9) ha (qW (p := ⟨bk se, of_ se + i * 1, none⟩) ha (xJ (t := 3) (x := 14) (d := 15) (ty := 3)) rfl (by kernel_rfl) (fun w' hw => by rw [hw, Nat.mul_one, ← getD_of hx9]; exact ((hre.sat hS).at_ ((List.getElem?_eq_some_iff.1 hx9).1)).2)) fun a ha => ?_
  refine jU (o_retF (t := 11) (f := 120) (cap := []) ha (by decide) (qH (op := (Op.call { callee := (Callee.value (Operand.tmp 11)), args := #[(Operand.tmp 15)], argTypes := #[3] })) (d := some 16) (ty := 4)) rfl rfl Try.func120 (by kernel_rfl) (ec_sat (x := x9) hS) fun v2 w a hp3 ha => ?_)
  obtain ⟨rfl, hS⟩ := hp3
  refine jY (jJ ?_)
  rcases Bool.eq_false_or_eq_true (entryB x9) with c4 | c4
  ·
   refine jZ ha rfl (xQ c4) ?_;refine wp_skip (in_n (jJ (jQ [0, 1] (qK 18 ((i : Int) + 1) ha fun a ha => ?_))));refine jX [(1, 8, iv ((i : Int) + 1))] ha fun a ha => ?_;refine jY (jJ ?_);exact ⟨_, by omega, i + 1, rfl, by omega, allE hx9 hall c4, ha.keeps [0, 1, 7, 8] _ rfl, hS⟩
  refine jW ha rfl (xX c4) ?_
  refine wp_seq (jQ [0, 1] (jX [(0, 17, iv (i : Int)), (1, 4, iv (i : Int))] ha fun a ha => ?_))
  refine jY (jJ (wp_ret (in_r (qQ (qQ (in_r (qQ (jV ha (by kernel_rfl) (qJ (t := 4) ha rfl) ?_))))))))
  exact ⟨_, rfl, by rw [badE_yes hx9 c4]; exact decide_eq_true (by omega), hS⟩
 refine jZ ha rfl (decide_eq_false c1) ?_
 refine wp_exit (jK (jK (in_x (jJ (wp_seq (jQ [0] (jX [(0, 4, iv (-1))] ha fun a ha => ?_)))))))
 refine jY (jJ (wp_ret (jV ha (by kernel_rfl) (qJ (t := 4) ha rfl) ?_)))
 exact ⟨_, rfl, by rw [badE_no hall (by omega)]; decide, hS⟩
theorem eidx_sat {w0 w : World} {Rs : List Asn} {se : Sl} {es : List Int} (hS : Sat w0 w Rs) (hre : RdI w se es) :
  Calls Try.prog 137 #[.slice se.A se.n se.c, (.func (.func 120) #[] #[])] w (Ret fun r w' => ∃ kx : Int, r = .int .i64 kx ∧ decide (kx ≥ 0) = badE es ∧ Sat w0 w' Rs) :=
 (eidx_sat0 hre).mono fun e w' h => by
  cases e with
  | returned r => obtain ⟨kx, h1, h2, h3⟩ := h; exact ⟨kx, h1, h2, hS.comp (Ps := []) h3⟩
  | _ => exact h.elim
theorem code119 : Try.f119.body = some (Code.seq (cr Try.f119 0 false) (Code.seq (cr Try.f119 1 false) Code.ret)) := by kernel_rfl
theorem econ_sat0 {w0 : World} {se : Sl} {es : List Int} (hre : RdI w0 se es) :
  Calls Try.prog 119 #[.slice se.A se.n se.c, (.func (.func 120) #[] #[])] w0 (Ret fun r w' => r = .bool (badE es) ∧ Sat w0 w' []) := by
 have hS : Sat w0 w0 [] := Sat.start w0
 have hel := hre.len
 have hbig := hre.big
 refine enter (n := 9) Try.func119 code119 (by kernel_rfl) (Nat.le_of_ble_eq_true rfl) (fun a ha => ?_)
 replace ha : Has 9 [(0, .slice se.A se.n se.c), (1, (.func (.func 120) #[] #[]))] a := ha
 refine wp_seq (jQ [0] (jX [(0, 4, .bool false)] ha fun a ha => ?_))
 refine jY (jJ (wp_seq (jQ [0, 1, 2, 3, 4] (jX [(0, 5, .slice se.A se.n se.c), (1, 6, (.func (.func 120) #[] #[]))] ha fun a ha => ?_))))
 refine jU (qY 7 (vs := [.slice se.A se.n se.c, (.func (.func 120) #[] #[])]) ha (eidx_sat hS (hre.sat hS)) fun v1 w a hp2 ha => ?_)
 obtain ⟨kx, rfl, hkx, hS⟩ := hp2
 refine jX [(3, 8, .bool (decide (kx ≥ 0))), (4, 4, .bool (decide (kx ≥ 0)))] ha fun a ha => ?_
 refine jY (jJ (wp_ret (jV ha (by kernel_rfl) (qJ (t := 4) ha rfl) ?_)))
 exact ⟨congrArg Value.bool (show (decide (kx ≥ 0)) = badE es from hkx), hS⟩
theorem econ_sat {w0 w : World} {Rs : List Asn} {se : Sl} {es : List Int} (hS : Sat w0 w Rs) (hre : RdI w se es) :
  Calls Try.prog 119 #[.slice se.A se.n se.c, (.func (.func 120) #[] #[])] w (Ret fun r w' => r = .bool (badE es) ∧ Sat w0 w' Rs) := lift0 hS (econ_sat0 hre)
theorem code85 : Try.f85.body = some (Code.seq (cr Try.f85 0 false) (Code.seq (cr Try.f85 1 false) Code.ret)) := by kernel_rfl
theorem arE_sat0 {w0 : World} {se : Sl} {es : List Int} (hre : RdI w0 se es) :
  Calls Try.prog 85 #[.slice se.A se.n se.c] w0 (Ret fun r w' => r = .bool (entriesB es) ∧ Sat w0 w' []) := by
 have hS : Sat w0 w0 [] := Sat.start w0
 have hel := hre.len
 have hbig := hre.big
 refine enter (n := 11) Try.func85 code85 (by kernel_rfl) (Nat.le_of_ble_eq_true rfl) (fun a ha => ?_)
 replace ha : Has 11 [(0, .slice se.A se.n se.c)] a := ha
 refine wp_seq (jQ [0] (jX [(0, 2, .bool false)] ha fun a ha => ?_))
 refine jY (jJ (wp_seq (jQ [0, 1, 2, 3, 4, 5, 6, 7, 8] (jX [(0, 3, .slice se.A se.n se.c), (1, 4, iv (se.n : Int)), (2, 5, .bool (decide ((se.n : Int) ≤ 60))), (3, 6, .bool (decide ((se.n : Int) ≤ 60)))] ha fun a ha => ?_))))
 by_cases c1 : (se.n : Int) ≤ 60
 ·
  replace ha := ha.turn 5 (.bool true) rfl (congrArg Value.bool (decide_eq_true c1))
  replace ha := ha.turn 6 (.bool true) rfl (congrArg Value.bool (decide_eq_true c1))
  refine jX [(4, 7, .slice se.A se.n se.c)] ha fun a ha => ?_
  refine jU (qY 8 (vs := [.slice se.A se.n se.c, (.func (.func 120) #[] #[])]) ha (econ_sat hS (hre.sat hS)) fun v2 w a hp3 ha => ?_)
  obtain ⟨rfl, hS⟩ := hp3
  refine jX [(6, 9, .bool (!((badE es)))), (7, 10, .bool (!((badE es)))), (8, 2, .bool (!((badE es))))] ha fun a ha => ?_
  refine jY (jJ (wp_ret (jV ha (by kernel_rfl) (qJ (t := 2) ha rfl) ?_)))
  have hE : entriesB es = !((badE es)) := by unfold entriesB; rw [decide_eq_true (show es.length ≤ 60 by omega), Bool.true_and]
  rw [hE]
  exact ⟨rfl, hS⟩
 replace ha := ha.turn 5 (.bool false) rfl (congrArg Value.bool (decide_eq_false c1))
 replace ha := ha.turn 6 (.bool false) rfl (congrArg Value.bool (decide_eq_false c1))
 refine jX [(4, 7, undef), (5, 8, undef), (6, 9, undef), (7, 10, .bool false), (8, 2, .bool false)] ha fun a ha => ?_
 refine jY (jJ (wp_ret (jV ha (by kernel_rfl) (qJ (t := 2) ha rfl) ?_)))
 have hE : entriesB es = false := by unfold entriesB; rw [decide_eq_false (show ¬ es.length ≤ 60 by omega)]; rfl
 rw [hE]
 exact ⟨rfl, hS⟩
theorem arE_sat {w0 w : World} {Rs : List Asn} {se : Sl} {es : List Int} (hS : Sat w0 w Rs) (hre : RdI w se es) :
  Calls Try.prog 85 #[.slice se.A se.n se.c] w (Ret fun r w' => r = .bool (entriesB es) ∧ Sat w0 w' Rs) := lift0 hS (arE_sat0 hre)
end Go.Proofs.Ytbgfiiehjaghiaa.G
