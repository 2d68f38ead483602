/- What the claim FnExactLintProgram rests on, part 22 of 29; the last part proves it: for every input the law answers true, and its arguments read behind the call as before it. No condition. -/
import Derived.Shelf.Slices.Delete
import Derived.Shelf.Slices.Clone
import Derived.Lib.OwnBridge
import Derived.KernelRfl
import Derived.WalkKit
import Derived.Test.YtpenhegoilccoaaQLintProgram20
set_option linter.unusedSimpArgs false
set_option linter.unusedVariables false
set_option maxRecDepth 20000
set_option maxHeartbeats 1000000
namespace Go.Proofs.Ytpenhegoilccoaa.G
open Go.RowKit Go.Shelf Go.Lib Go.Proofs.YtpenhegoilccoaaW.PrintWords Go.Proofs.YtpenhegoilccoaaW.PrintLast Go.Proofs.YtpenhegoilccoaaW.PrintMore Go.Proofs.Ytpenhegoilccoaa.SX
def idxI (l : List Int) (x : Int) : Int := if x ∈ l then (l.idxOf x : Int) else -1
theorem idxI_mem {l : List Int} {x : Int} : idxI l x ≥ 0 ↔ x ∈ l := by unfold idxI; split <;> simp_all <;> omega
theorem idxI_le (l : List Int) (x : Int) : -1 ≤ idxI l x ∧ idxI l x ≤ l.length := by
  unfold idxI
  split
  · rename_i h
    have := List.idxOf_lt_length_of_mem h
    omega
  · omega
theorem idxI_no {l : List Int} {x : Int} (h : x ∉ l) : idxI l x = -1 := if_neg h
theorem idxI_yes {l : List Int} {x : Int} {i : Nat} (hi : l[i]? = some x) (hn : x ∉ l.take i) : idxI l x = (i : Int) := by
 have hlt := (List.getElem?_eq_some_iff.1 hi).1
 have hx := (List.getElem?_eq_some_iff.1 hi).2
 rw [idxI, if_pos (List.mem_of_getElem? hi)]
 congr 1
 have h1 : l = l.take i ++ l[i] :: l.drop (i + 1) := by
  rw [List.getElem_cons_drop hlt, List.take_append_drop]
 have h2 : (l.take i ++ l[i] :: l.drop (i + 1)).idxOf x = i := by
  rw [List.idxOf_append, if_neg hn, hx, List.idxOf_cons_self, List.length_take]
  omega
 rw [← h1] at h2
 exact h2
theorem bkT_not {l : List Int} {x y : Int} {i : Nat} (hi : l[i]? = some y) (hn : x ∉ l.take i) (h : ¬ x = y) : x ∉ l.take (i + 1) := by
 rw [List.take_add_one, hi]
 simp only [Option.toList, List.mem_append, List.mem_singleton]
 rintro (h1 | h1)
 · exact hn h1
 · exact h h1
theorem bkT_all {l : List Int} {x : Int} {i : Nat} (hi : l.length ≤ i) (hn : x ∉ l.take i) : x ∉ l := by rwa [List.take_of_length_le hi] at hn
end Go.Proofs.Ytpenhegoilccoaa.G
namespace Go.Proofs.Ytpenhegoilccoaa.G
open Go.RowKit Go.Proofs.Ytpenhegoilccoaa.SX Go.Proofs.YtpenhegoilccoaaW.PrintWords Go.Proofs.YtpenhegoilccoaaW.PrintLast Go.Proofs.YtpenhegoilccoaaW.PrintMore
theorem getD_of {l : List Int} {n : Nat} {x : Int} (h : l[n]? = some x) : l.getD n 0 = x := by rw [List.getD_eq_getElem?_getD, h]; rfl
theorem code75 : Try.f75.body = some (Code.seq (cr Try.f75 0 false) (Code.seq (Code.seq (cr Try.f75 1 false) (Code.block 0 (Code.loop (Code.seq (cr Try.f75 2 false) (Code.seq (Code.cond (Operand.tmp 9) Code.skip (Code.exit 0)) (Code.seq (Code.block 1 (Code.seq (cr Try.f75 3 false) (Code.seq (cr Try.f75 4 false) (Code.cond (Operand.tmp 16) (Code.seq (cr Try.f75 5 false) Code.ret) Code.skip)))) (cr Try.f75 6 false))))))) (Code.seq (cr Try.f75 7 false) Code.ret))) := by kernel_rfl
theorem bidx_sat0 {w0 : World} {se : Sl} {es : List Int} {x : Int} (hre : RdI w0 se es) :
  Calls Try.prog 75 #[.slice se.A se.n se.c, iv x] w0 (Ret fun r w' => r = .int .i64 (idxI es x) ∧ Sat w0 w' []) := by
 have hS : Sat w0 w0 [] := Sat.start w0
 have hel := hre.len
 have hbig := hre.big
 refine enter (n := 19) Try.func75 code75 (by kernel_rfl) (Nat.le_of_ble_eq_true rfl) (fun a ha => ?_)
 replace ha : Has 19 [(0, .slice se.A se.n se.c), (1, iv x)] a := ha
 refine wp_seq (jX [0] (jQ [(0, 4, iv 0)] ha fun a ha => ?_))
 refine jY (jJ (wp_seq (wp_seq (jX [0, 1, 2] (jQ [(0, 6, .slice se.A se.n se.c), (1, 7, iv (se.n : Int)), (2, 8, iv 0)] ha fun a ha => ?_)))))
 refine jY (jJ (wp_block ?_))
 refine wp_loop_ghost (fun n_ a_ w_ => ∃ (i : Nat), n_ = es.length - i ∧ (i ≤ es.length) ∧ (x ∉ es.take i) ∧ Has 19 [(0, .slice se.A se.n se.c), (1, iv x), (7, iv (se.n : Int)), (8, iv (i : Int))] a_ ∧ Sat w0 w_ ([])) _ ⟨0, rfl, Nat.zero_le _, by simp, ha.keeps [0, 1, 7, 8] _ rfl, hS⟩ ?_
 rintro n_ a w ⟨i, rfl, hi, hno, ha, hS⟩
 refine wp_seq (jX [0] (jQ [(0, 9, .bool (decide ((i : Int) < (se.n : Int))))] ha fun a ha => ?_))
 refine jY (jJ (wp_seq ?_))
 by_cases c1 : (i : Int) < (se.n : Int)
 ·
  have hlt : i < es.length := by omega
  obtain ⟨x9, hx9⟩ : ∃ x, es[i]? = some x := ⟨_, List.getElem?_eq_getElem hlt⟩
  refine jU ha rfl (decide_eq_true c1) ?_
  refine wp_skip (jJ (wp_seq (wp_block (wp_seq (jX [0, 1] (jQ [(0, 10, iv (i : Int)), (1, 5, iv (i : Int))] ha fun a ha => ?_))))))
  refine jY (jJ (wp_seq (jX [0, 1, 2, 3, 4, 5] (jQ [(0, 11, iv x), (1, 12, .slice se.A se.n se.c), (2, 13, iv (i : Int))] ha fun a ha => ?_))))
  refine qX (.pointer (some ⟨bk se, of_ se + i * 1, none⟩)) ha (xW (el := 3) (sz := 1) (j := i) ha (xY (t := 44) (x := 12) (y := 13) (d := 14)) rfl rfl (by kernel_rfl) (by kernel_rfl) ((hre.sat hS).at_ ((List.getElem?_eq_some_iff.1 hx9).1)).1 (by rw [((hre.sat hS)).len]; exact (List.getElem?_eq_some_iff.1 hx9).1)) fun a ha => ?_
  refine qX (iv x9) ha (qV (p := ⟨bk se, of_ se + i * 1, none⟩) ha (xK (t := 3) (x := 14) (d := 15) (ty := 3)) rfl (by kernel_rfl) (fun w' hw => by rw [hw, Nat.mul_one, ← getD_of hx9]; exact ((hre.sat hS).at_ ((List.getElem?_eq_some_iff.1 hx9).1)).2)) fun a ha => ?_
  refine jQ [(5, 16, .bool (decide (x = x9)))] ha fun a ha => ?_
  refine jY (jJ ?_)
  by_cases c2 : x = x9
  ·
   refine jU ha rfl (decide_eq_true c2) ?_;refine wp_seq (jX [0, 1] (jQ [(0, 17, iv (i : Int)), (1, 4, iv (i : Int))] ha fun a ha => ?_));refine jY (jJ (wp_ret (in_r (qG (qG (in_r (qG (jG ha (by kernel_rfl) (qK (t := 4) ha rfl) ?_))))))));have hE : idxI es x = (i : Int) := idxI_yes (by rw [c2]; exact hx9) hno;rw [hE];exact ⟨rfl, hS⟩
  refine jK ha rfl (decide_eq_false c2) ?_
  refine wp_skip (in_n (jJ (jX [0, 1] (xJ 18 ((i : Int) + 1) ha fun a ha => ?_))))
  refine jQ [(1, 8, iv ((i : Int) + 1))] ha fun a ha => ?_
  refine jY (jJ ?_)
  exact ⟨_, by omega, i + 1, rfl, by omega, bkT_not hx9 hno c2, ha.keeps [0, 1, 7, 8] _ rfl, hS⟩
 refine jK ha rfl (decide_eq_false c1) ?_
 refine wp_exit (qJ (qJ (in_x (jJ (wp_seq (jX [0] (jQ [(0, 4, iv (-1))] ha fun a ha => ?_)))))))
 refine jY (jJ (wp_ret (jG ha (by kernel_rfl) (qK (t := 4) ha rfl) ?_)))
 have hE : idxI es x = (-1) := idxI_no (bkT_all (by omega) hno)
 rw [hE]
 exact ⟨rfl, hS⟩
theorem bidx_sat {w0 w : World} {Rs : List Asn} {se : Sl} {es : List Int} {x : Int} (hS : Sat w0 w Rs) (hre : RdI w se es) :
  Calls Try.prog 75 #[.slice se.A se.n se.c, iv x] w (Ret fun r w' => r = .int .i64 (idxI es x) ∧ Sat w0 w' Rs) := lift0 hS (bidx_sat0 hre)
theorem code69 : Try.f69.body = some (Code.seq (cr Try.f69 0 false) (Code.seq (Code.seq (cr Try.f69 1 false) (Code.block 0 (Code.loop (Code.seq (Code.seq (cr Try.f69 2 false) (Code.cond (Operand.tmp 9) Code.skip (Code.exit 0))) (Code.seq (Code.block 1 (Code.seq (cr Try.f69 4 false) (Code.cond (Operand.tmp 17) (Code.seq (cr Try.f69 5 false) Code.ret) Code.skip))) (cr Try.f69 3 false)))))) (Code.seq (cr Try.f69 6 false) Code.ret))) := by kernel_rfl
theorem bhas_sat0 {w0 : World} {se : Sl} {es : List Int} {x : Int} (hre : RdI w0 se es) :
  Calls Try.prog 69 #[.slice se.A se.n se.c, iv x] w0 (Ret fun r w' => r = .bool (es.contains x) ∧ Sat w0 w' []) := by
 have hS : Sat w0 w0 [] := Sat.start w0
 have hel := hre.len
 have hbig := hre.big
 refine enter (n := 18) Try.func69 code69 (by kernel_rfl) (Nat.le_of_ble_eq_true rfl) (fun a ha => ?_)
 replace ha : Has 18 [(0, .slice se.A se.n se.c), (1, iv x)] a := ha
 refine wp_seq (jX [0] (jQ [(0, 4, .bool false)] ha fun a ha => ?_))
 refine jY (jJ (wp_seq (wp_seq (jX [0] (jQ [(0, 5, iv 0)] ha fun a ha => ?_)))))
 refine jY (jJ (wp_block ?_))
 refine wp_loop_ghost (fun n_ a_ w_ => ∃ (i : Nat), n_ = es.length - i ∧ (i ≤ es.length) ∧ (x ∉ es.take i) ∧ Has 18 [(0, .slice se.A se.n se.c), (1, iv x), (5, iv (i : Int))] a_ ∧ Sat w0 w_ ([])) _ ⟨0, rfl, Nat.zero_le _, by simp, ha.keeps [0, 1, 5] _ rfl, hS⟩ ?_
 rintro n_ a w ⟨i, rfl, hi, hno, ha, hS⟩
 refine wp_seq (wp_seq (jX [0, 1, 2, 3] (jQ [(0, 6, iv (i : Int)), (1, 7, .slice se.A se.n se.c), (2, 8, iv (se.n : Int)), (3, 9, .bool (decide ((i : Int) < (se.n : Int))))] ha fun a ha => ?_)))
 refine jY (jJ ?_)
 by_cases c1 : (i : Int) < (se.n : Int)
 ·
  have hlt : i < es.length := by omega
  obtain ⟨x9, hx9⟩ : ∃ x, es[i]? = some x := ⟨_, List.getElem?_eq_getElem hlt⟩
  refine jU ha rfl (decide_eq_true c1) ?_
  refine wp_skip (jJ (wp_seq (wp_block (wp_seq (jX [0, 1, 2, 3, 4, 5] (jQ [(0, 12, .slice se.A se.n se.c), (1, 13, iv (i : Int))] ha fun a ha => ?_))))))
  refine qX (.pointer (some ⟨bk se, of_ se + i * 1, none⟩)) ha (xW (el := 3) (sz := 1) (j := i) ha (xY (t := 44) (x := 12) (y := 13) (d := 14)) rfl rfl (by kernel_rfl) (by kernel_rfl) ((hre.sat hS).at_ ((List.getElem?_eq_some_iff.1 hx9).1)).1 (by rw [((hre.sat hS)).len]; exact (List.getElem?_eq_some_iff.1 hx9).1)) fun a ha => ?_
  refine qX (iv x9) ha (qV (p := ⟨bk se, of_ se + i * 1, none⟩) ha (xK (t := 3) (x := 14) (d := 15) (ty := 3)) rfl (by kernel_rfl) (fun w' hw => by rw [hw, Nat.mul_one, ← getD_of hx9]; exact ((hre.sat hS).at_ ((List.getElem?_eq_some_iff.1 hx9).1)).2)) fun a ha => ?_
  refine jQ [(4, 16, iv x), (5, 17, .bool (decide (x9 = x)))] ha fun a ha => ?_
  refine jY (jJ ?_)
  by_cases c2 : x9 = x
  ·
   refine jU ha rfl (decide_eq_true c2) ?_;refine wp_seq (jX [0] (jQ [(0, 4, .bool true)] ha fun a ha => ?_));refine jY (jJ (wp_ret (in_r (qG (qG (in_r (qG (jG ha (by kernel_rfl) (qK (t := 4) ha rfl) ?_))))))));have hE : es.contains x = true := List.contains_iff_mem.2 (by rw [← c2]; exact List.mem_of_getElem? hx9);rw [hE];exact ⟨rfl, hS⟩
  refine jK ha rfl (decide_eq_false c2) ?_
  refine wp_skip (in_n (jJ (jX [0, 1, 2] (jQ [(0, 10, iv (i : Int))] ha fun a ha => ?_))))
  refine xJ 11 ((i : Int) + 1) ha fun a ha => ?_
  refine jQ [(2, 5, iv ((i : Int) + 1))] ha fun a ha => ?_
  refine jY (jJ ?_)
  exact ⟨_, by omega, i + 1, rfl, by omega, bkT_not hx9 hno (fun h9 => c2 h9.symm), ha.keeps [0, 1, 5] _ rfl, hS⟩
 refine jK ha rfl (decide_eq_false c1) ?_
 refine wp_exit (qJ (qJ (in_x (jJ (wp_seq (jX [0] (jQ [(0, 4, .bool false)] ha fun a ha => ?_)))))))
 refine jY (jJ (wp_ret (jG ha (by kernel_rfl) (qK (t := 4) ha rfl) ?_)))
 have hE : es.contains x = false := Bool.eq_false_iff.2 fun h9 => bkT_all (by omega) hno (List.contains_iff_mem.1 h9)
 rw [hE]
 exact ⟨rfl, hS⟩
theorem bhas_sat {w0 w : World} {Rs : List Asn} {se : Sl} {es : List Int} {x : Int} (hS : Sat w0 w Rs) (hre : RdI w se es) :
  Calls Try.prog 69 #[.slice se.A se.n se.c, iv x] w (Ret fun r w' => r = .bool (es.contains x) ∧ Sat w0 w' Rs) := lift0 hS (bhas_sat0 hre)
end Go.Proofs.Ytpenhegoilccoaa.G
