/- What the claim FnExactFirstDifference rests on, part 18 of 20; the last part proves it: for every input the law answers true, and its arguments read behind the call as before it. No condition. -/
import Derived.Test.YtggahaddkoifkaaQFirstDifference17
section
namespace Go.Proofs.Ytggahaddkoifkaa.G
open Go.RowKit Go.Proofs.Ytggahaddkoifkaa.SX Go.Proofs.YtggahaddkoifkaaW.PrintWords Go.Proofs.YtggahaddkoifkaaW.PrintLast Go.Proofs.YtggahaddkoifkaaW.PrintMore
set_option linter.unusedVariables false
set_option linter.unusedSimpArgs false
theorem code4 : Try.f4.body = some (Code.seq (cr Try.f4 0 false) (Code.seq (cr Try.f4 1 false) (Code.seq (cr Try.f4 2 false) (Code.seq (Code.seq (cr Try.f4 3 false) (Code.cond (Operand.tmp 24) (Code.seq (cr Try.f4 4 false) Code.ret) Code.skip)) (Code.seq (cr Try.f4 5 false) (Code.seq (Code.seq (cr Try.f4 6 false) (Code.cond (Operand.tmp 29) (Code.seq (cr Try.f4 7 false) Code.ret) Code.skip)) (Code.seq (cr Try.f4 8 true) (Code.seq (cr Try.f4 9 false) (Code.seq (cr Try.f4 10 false) (Code.seq (cr Try.f4 11 false) (Code.seq (Code.seq (cr Try.f4 12 false) (Code.cond (Operand.tmp 63) (Code.seq (cr Try.f4 13 false) Code.ret) Code.skip)) (Code.seq (Code.seq (cr Try.f4 14 true) (Code.cond (Operand.tmp 68) (Code.seq (cr Try.f4 15 false) Code.ret) Code.skip)) (Code.seq (Code.seq (cr Try.f4 16 true) (Code.cond (Operand.tmp 73) (Code.seq (cr Try.f4 17 false) Code.ret) Code.skip)) (Code.seq (cr Try.f4 18 false) Code.ret)))))))))))))) := by kernel_rfl
set_option maxRecDepth 20000 in
set_option maxHeartbeats 1000000 in
theorem law4_walk (w0 : World) (s0 : Sl) (l0 : List (List LT)) (s1 : Sl) (l1 : List (List LT)) (f : Int) (low : Int) (high : Int) (fuel : Int) (hr0 : RdA w0 s0 l0) (hr1 : RdA w0 s1 l1) :
  Calls Try.prog 4 #[.agg #[.slice s0.A s0.n s0.c], .agg #[.slice s1.A s1.n s1.c], iv f, iv low, iv high, iv fuel] w0 (Ret fun r w' => r = .bool true ∧ Below w0.heap.size w0 w') := by
 have hS : Sat w0 w0 [] := Sat.start w0
 refine enter (n := 74) Try.func4 code4 (by kernel_rfl) (Nat.le_of_ble_eq_true rfl) (fun a ha => ?_)
 replace ha : Has 74 [(0, .agg #[.slice s0.A s0.n s0.c]), (1, .agg #[.slice s1.A s1.n s1.c]), (2, iv f), (3, iv low), (4, iv high), (5, iv fuel)] a := ha
 refine wp_seq (jZ [0, 1, 2] (jU (xY 6 [.slice s0.A s0.n s0.c] 24 (ptr · 0) ha hS fun b1 w a hb2 hS ha => ?_)))
 refine jU (xY 7 [.slice s1.A s1.n s1.c] 24 (ptr · 0) ha hS fun b3 w a hb4 hS ha => ?_)
 refine jY [(2, 12, .bool false)] ha fun a ha => ?_
 refine jW (jX (wp_seq (jZ [0] (jY [(0, 13, iv 1048576)] ha fun a ha => ?_))))
 refine jW (jX (wp_seq (jZ [0, 1, 2, 3] (zY 20 ha (hS.blk 1 rfl) fun a ha => ?_))))
 refine jY [(1, 21, iv 1048576)] ha fun a ha => ?_
 refine jU (xX 22 (vs := [.agg #[.slice s0.A s0.n s0.c], iv 1048576]) ha (szProgram_sat hS (hr0.sat hS) (by omega) (by omega)) fun v5 w a hp6 ha => ?_)
 obtain ⟨rfl, hS⟩ := hp6
 refine jY [(3, 13, iv (szP l0 1048576))] ha fun a ha => ?_
 refine jW (jX (wp_seq (wp_seq (jZ [0, 1] (jY [(0, 23, iv (szP l0 1048576)), (1, 24, .bool (decide ((szP l0 1048576) < 0)))] ha fun a ha => ?_)))))
 refine jW (jX ?_)
 by_cases c7 : (szP l0 1048576) < 0
 ·
  refine qY ha rfl (decide_eq_true c7) ?_
  refine wp_seq (jZ [0] (jY [(0, 12, .bool true)] ha fun a ha => ?_))
  refine jW (jX (wp_ret (qU (xJ ha (by kernel_rfl) (xV (t := 12) ha rfl) ?_))))
  exact ⟨rfl, hS.below⟩
 have hf0 : Fits l0 := by have h8 : 0 ≤ szP l0 1048576 := (by omega); have h9 := szP_ok l0 1048576 h8; exact ⟨by omega, by omega⟩
 have htp0 := (toP_fits hf0).tot
 have hz0 := szP_ok l0 1048576 (by omega)
 refine qJ ha rfl (decide_eq_false c7) ?_
 refine wp_skip (jX (wp_seq (jZ [0, 1, 2, 3] (zY 25 ha (hS.blk 0 rfl) fun a ha => ?_))))
 refine jY [(1, 26, iv (szP l0 1048576))] ha fun a ha => ?_
 refine jU (xX 27 (vs := [.agg #[.slice s1.A s1.n s1.c], iv (szP l0 1048576)]) ha (szProgram_sat hS (hr1.sat hS) (by omega) (by omega)) fun v8 w a hp9 ha => ?_)
 obtain ⟨rfl, hS⟩ := hp9
 refine jY [(3, 13, iv (szP l1 (szP l0 1048576)))] ha fun a ha => ?_
 refine jW (jX (wp_seq (wp_seq (jZ [0, 1] (jY [(0, 28, iv (szP l1 (szP l0 1048576))), (1, 29, .bool (decide ((szP l1 (szP l0 1048576)) < 0)))] ha fun a ha => ?_)))))
 refine jW (jX ?_)
 by_cases c10 : (szP l1 (szP l0 1048576)) < 0
 ·
  refine qY ha rfl (decide_eq_true c10) ?_
  refine wp_seq (jZ [0] (jY [(0, 12, .bool true)] ha fun a ha => ?_))
  refine jW (jX (wp_ret (qU (xJ ha (by kernel_rfl) (xV (t := 12) ha rfl) ?_))))
  exact ⟨rfl, hS.below⟩
 have hf1 : Fits l1 := by have h8 : 0 ≤ szP l1 (szP l0 1048576) := (by omega); have h9 := szP_ok l1 (szP l0 1048576) h8; exact ⟨by omega, by omega⟩
 have htp1 := (toP_fits hf1).tot
 have hz1 := szP_ok l1 (szP l0 1048576) (by omega)
 refine qJ ha rfl (decide_eq_false c10) ?_
 refine wp_skip (jX (wp_seq (xK 14 14 (hS.pickN 2 [0, 1] (by decide) rfl) hS fun w hS => ?_)))
 refine yQ 0 31 ha (hS.pickN 2 [0, 1] (by decide) rfl) (jJ (jQ)) (fun _ hw => hw.blk 1 rfl) fun a ha => ?_
 refine yQ 2 33 ha (hS.pickN 2 [0, 1] (by decide) rfl) (jJ (jQ)) (fun _ hw => hw.blk 0 rfl) fun a ha => ?_
 refine jV (k := 8) [(4, 35, iv f), (5, 36, iv low), (6, 37, iv high), (7, 38, iv fuel)] ha (.inr (hS.pickN 2 [0, 1] (by decide) rfl)) (jJ (jQ)) fun a ha => ?_
 refine qZ 1 (xX 32 (vs := [.agg #[.slice s0.A s0.n s0.c]]) ha (toProgram_sat hS (hr0.sat hS) hf0) fun v11 w a hp12 ha => ?_)
 obtain ⟨sp1, rfl, hS⟩ := hp12
 refine ⟨.inr (hS.pickN 3 [1, 2] (by decide) rfl), ?_⟩
 refine qZ 3 (xX 34 (vs := [.agg #[.slice s1.A s1.n s1.c]]) ha (toProgram_sat hS (hr1.sat hS) hf1) fun v13 w a hp14 ha => ?_)
 obtain ⟨sp2, rfl, hS⟩ := hp14
 refine ⟨.inr (hS.pickN 4 [2, 3] (by decide) rfl), ?_⟩
 refine qZ 8 (xX 39 (vs := [.agg #[.slice sp1.A sp1.n sp1.c], .agg #[.slice sp2.A sp2.n sp2.c], iv f, iv low, iv high, iv fuel]) ha (spec_FirstDifference_sat hS (hS.rdS 1 rfl) (toP_fits hf0) (hS.rdS 0 rfl) (toP_fits hf1)) fun v15 w a hp16 ha => ?_)
 obtain ⟨rfl, hS⟩ := hp16
 refine ⟨.inr (hS.pickN 4 [2, 3] (by decide) rfl), ?_⟩
 refine jV (k := 0) [(9, 30, .tuple #[iv ((diffP (toP l0) (toP l1) f low high fuel).1), .bool ((diffP (toP l0) (toP l1) f low high fuel).2)]), (10, 40, iv ((diffP (toP l0) (toP l1) f low high fuel).1)), (11, 41, .bool ((diffP (toP l0) (toP l1) f low high fuel).2)), (12, 14, iv ((diffP (toP l0) (toP l1) f low high fuel).1)), (13, 15, .bool ((diffP (toP l0) (toP l1) f low high fuel).2))] ha (.inr (hS.pickN 4 [2, 3] (by decide) rfl)) (jJ (jQ)) fun a ha => ?_
 refine xZ ?_
 replace ha := ha.as [(2, iv f), (3, iv low), (4, iv high), (5, iv fuel), (6, ptr b1 0), (7, ptr b3 0), (12, .bool false), (14, iv ((diffP (toP l0) (toP l1) f low high fuel).1)), (15, .bool ((diffP (toP l0) (toP l1) f low high fuel).2))] rfl
 refine jX (wp_seq (jZ [0, 1, 2, 3] (zY 42 ha (hS.blk 3 rfl) fun a ha => ?_)))
 refine jU (xX 43 (vs := [.agg #[.slice s0.A s0.n s0.c]]) ha (toProgram_sat hS (hr0.sat hS) hf0) fun v17 w a hp18 ha => ?_)
 obtain ⟨sp3, rfl, hS⟩ := hp18
 refine jU (xY 16 [.slice none 0 0] 30 (ptr · 0) ha hS fun b19 w a hb20 hS ha => ?_)
 refine jU (jG 0 ha (xU (t := 30) (x := 16) (y := 43)) rfl rfl rfl (by kernel_rfl) hS rfl (Nat.le_of_ble_eq_true rfl) rfl fun w a hS ha => ?_)
 refine jW (jX (wp_seq (jZ [0, 1, 2, 3] (zY 44 ha (hS.blk 4 rfl) fun a ha => ?_))))
 refine jU (xX 45 (vs := [.agg #[.slice s1.A s1.n s1.c]]) ha (toProgram_sat hS (hr1.sat hS) hf1) fun v21 w a hp22 ha => ?_)
 obtain ⟨sp4, rfl, hS⟩ := hp22
 refine jU (xY 17 [.slice none 0 0] 30 (ptr · 0) ha hS fun b23 w a hb24 hS ha => ?_)
 refine jU (jG 0 ha (xU (t := 30) (x := 17) (y := 45)) rfl rfl rfl (by kernel_rfl) hS rfl (Nat.le_of_ble_eq_true rfl) rfl fun w a hS ha => ?_)
 refine jW (jX (wp_seq (jZ [0, 1, 2, 3, 4, 5, 6, 7, 8, 9, 10, 11] (zY 47 ha (hS.blk 2 rfl) fun a ha => ?_))))
 refine zY 48 ha (hS.blk 0 rfl) fun a ha => ?_
 refine jY [(2, 49, iv f), (3, 50, iv low), (4, 51, iv high), (5, 52, iv fuel)] ha fun a ha => ?_
 refine jU (xX 53 (vs := [.agg #[.slice sp3.A sp3.n sp3.c], .agg #[.slice sp4.A sp4.n sp4.c], iv f, iv low, iv high, iv fuel]) ha (impl_FirstDifference_sat hS (hS.rdS 3 rfl) (toP_fits hf0) (hS.rdS 1 rfl) (toP_fits hf1)) fun v25 w a hp26 ha => ?_)
 obtain ⟨rfl, hS⟩ := hp26
 refine jY [(7, 46, .tuple #[iv ((diffP (toP l0) (toP l1) f low high fuel).1), .bool ((diffP (toP l0) (toP l1) f low high fuel).2)]), (8, 54, iv ((diffP (toP l0) (toP l1) f low high fuel).1)), (9, 55, .bool ((diffP (toP l0) (toP l1) f low high fuel).2)), (10, 18, iv ((diffP (toP l0) (toP l1) f low high fuel).1)), (11, 19, .bool ((diffP (toP l0) (toP l1) f low high fuel).2))] ha fun a ha => ?_
 refine jW (jX (wp_seq (wp_seq (jZ [0, 1, 2, 3, 4, 5, 6, 7] (jY [(0, 56, iv ((diffP (toP l0) (toP l1) f low high fuel).1)), (1, 57, iv ((diffP (toP l0) (toP l1) f low high fuel).1))] ha fun a ha => ?_)))))
 refine zU (.bool false) ha ((xH (v := .bool (!(decide ((diffP (toP l0) (toP l1) f low high fuel).1 = (diffP (toP l0) (toP l1) f low high fuel).1)))) ha (zK (op := (Op.binOp BinOp.neq 3 (Operand.tmp 56) (Operand.tmp 57) 3)) (d := some 58) (ty := 4)) (by kernel_rfl) (fun _ => by kernel_rfl)).as (by simp)) fun a ha => ?_
 refine jY [(3, 59, .bool false), (4, 60, .bool ((diffP (toP l0) (toP l1) f low high fuel).2)), (5, 61, .bool ((diffP (toP l0) (toP l1) f low high fuel).2))] ha fun a ha => ?_
 refine zU (.bool false) ha ((xH (v := .bool (!(((diffP (toP l0) (toP l1) f low high fuel).2) == ((diffP (toP l0) (toP l1) f low high fuel).2)))) ha (AtG.here (gd := 59) ⟨(by kernel_rfl : ((xQ Try.f4 12)[6]?).map spec = some ((Op.binOp BinOp.neq 4 (Operand.tmp 60) (Operand.tmp 61) 4), some 62, 4, some (3, false))), by kernel_rfl⟩ ha rfl) (by kernel_rfl) (fun _ => by kernel_rfl)).as (by simp)) fun a ha => ?_
 refine jY [(7, 63, .bool false)] ha fun a ha => ?_
 refine jW ?_
 replace ha := ha.as [(6, ptr b1 0), (7, ptr b3 0), (12, .bool false), (16, ptr b19 0), (17, ptr b23 0), (63, .bool false)] rfl
 refine jX ?_
 refine qJ ha rfl rfl ?_
 refine wp_skip (jX (wp_seq (wp_seq (xK 5 5 (hS.pickN 8 [0, 2, 6, 7] (by decide) rfl) hS fun w hS => ?_))))
 refine yQ 0 64 ha (hS.pickN 8 [0, 2, 6, 7] (by decide) rfl) (jJ (jJ (jQ))) (fun _ hw => hw.blk 1 rfl) fun a ha => ?_
 refine yQ 1 65 ha (hS.pickN 8 [0, 2, 6, 7] (by decide) rfl) (jJ (jJ (jQ))) (fun _ hw => hw.blk 3 rfl) fun a ha => ?_
 refine qZ 2 (xX 66 (vs := [.agg #[.slice s0.A s0.n s0.c]]) ha (toProgram_sat hS (hr0.sat hS) hf0) fun v27 w a hp28 ha => ?_)
 obtain ⟨sp5, rfl, hS⟩ := hp28
 refine ⟨.inr (hS.pickN 9 [1, 3, 7, 8] (by decide) rfl), ?_⟩
 refine qZ 3 (xX 67 (vs := [.agg #[.slice sp3.A sp3.n sp3.c], .agg #[.slice sp5.A sp5.n sp5.c]]) ha (eqP_sat hS (hS.rdS 4 rfl) (hS.rdS 0 rfl) (toP_fits hf0)) fun v29 w a hp30 ha => ?_)
 obtain ⟨rfl, hS⟩ := hp30
 refine ⟨.inr (hS.pickN 9 [1, 3, 7, 8] (by decide) rfl), ?_⟩
 refine jV (k := 0) [(4, 68, .bool false)] ha (.inr (hS.pickN 9 [1, 3, 7, 8] (by decide) rfl)) (jJ (jJ (jQ))) fun a ha => ?_
 refine xZ (jX ?_)
 refine qJ ha rfl rfl ?_
 refine wp_skip (jX (wp_seq (wp_seq (xK 5 5 (hS.pickN 9 [1, 3, 7, 8] (by decide) rfl) hS fun w hS => ?_))))
 refine yQ 0 69 ha (hS.pickN 9 [1, 3, 7, 8] (by decide) rfl) (jJ (jJ (jQ))) (fun _ hw => hw.blk 0 rfl) fun a ha => ?_
 refine yQ 1 70 ha (hS.pickN 9 [1, 3, 7, 8] (by decide) rfl) (jJ (jJ (jQ))) (fun _ hw => hw.blk 2 rfl) fun a ha => ?_
 refine qZ 2 (xX 71 (vs := [.agg #[.slice s1.A s1.n s1.c]]) ha (toProgram_sat hS (hr1.sat hS) hf1) fun v31 w a hp32 ha => ?_)
 obtain ⟨sp6, rfl, hS⟩ := hp32
 refine ⟨.inr (hS.pickN 10 [2, 4, 8, 9] (by decide) rfl), ?_⟩
 refine qZ 3 (xX 72 (vs := [.agg #[.slice sp4.A sp4.n sp4.c], .agg #[.slice sp6.A sp6.n sp6.c]]) ha (eqP_sat hS (hS.rdS 3 rfl) (hS.rdS 0 rfl) (toP_fits hf1)) fun v33 w a hp34 ha => ?_)
 obtain ⟨rfl, hS⟩ := hp34
 refine ⟨.inr (hS.pickN 10 [2, 4, 8, 9] (by decide) rfl), ?_⟩
 refine jV (k := 0) [(4, 73, .bool false)] ha (.inr (hS.pickN 10 [2, 4, 8, 9] (by decide) rfl)) (jJ (jJ (jQ))) fun a ha => ?_
 refine xZ (jX ?_)
 refine qJ ha rfl rfl ?_
 refine wp_skip (jX (wp_seq (jZ [0] (jY [(0, 12, .bool true)] ha fun a ha => ?_))))
 refine jW ?_
 replace ha := ha.as [(12, .bool true)] rfl
 refine jX (wp_ret (xJ ha (by kernel_rfl) (xV (t := 12) ha rfl) ?_))
 exact ⟨rfl, hS.below⟩
end Go.Proofs.Ytggahaddkoifkaa.G
end
