/- What the claim FnExactCleanupFails rests on, part 18 of 20; the last part proves it: for every input the law answers true, and its arguments read behind the call as before it. No condition. -/
import Derived.Test.YtjkoibfkklhaiaaQCleanupFails17
section
namespace Go.Proofs.Ytjkoibfkklhaiaa.G
open Go.RowKit Go.Proofs.Ytjkoibfkklhaiaa.SX Go.Proofs.YtjkoibfkklhaiaaW.PrintWords Go.Proofs.YtjkoibfkklhaiaaW.PrintLast Go.Proofs.YtjkoibfkklhaiaaW.PrintMore
set_option linter.unusedVariables false
set_option linter.unusedSimpArgs false
theorem code10 : Try.f10.body = some (Code.seq (cr Try.f10 0 false) (Code.seq (cr Try.f10 1 false) (Code.seq (cr Try.f10 2 false) (Code.seq (Code.seq (cr Try.f10 3 false) (Code.cond (Operand.tmp 24) (Code.seq (cr Try.f10 4 false) Code.ret) Code.skip)) (Code.seq (cr Try.f10 5 false) (Code.seq (cr Try.f10 6 false) (Code.seq (cr Try.f10 7 false) (Code.seq (Code.seq (cr Try.f10 8 false) (Code.cond (Operand.tmp 52) (Code.seq (cr Try.f10 9 false) Code.ret) Code.skip)) (Code.seq (Code.seq (cr Try.f10 10 true) (Code.cond (Operand.tmp 57) (Code.seq (cr Try.f10 11 false) Code.ret) Code.skip)) (Code.seq (cr Try.f10 12 false) (Code.seq (cr Try.f10 13 false) (Code.seq (Code.seq (cr Try.f10 14 false) (Code.cond (Operand.tmp 73) (Code.seq (cr Try.f10 15 false) Code.ret) Code.skip)) (Code.seq (cr Try.f10 16 false) (Code.seq (cr Try.f10 17 false) (Code.seq (cr Try.f10 18 false) (Code.seq (cr Try.f10 19 false) (Code.seq (Code.seq (cr Try.f10 20 false) (Code.cond (Operand.tmp 81) (Code.seq (cr Try.f10 21 false) Code.ret) Code.skip)) (Code.seq (Code.seq (cr Try.f10 22 false) (Code.cond (Operand.tmp 84) (Code.seq (cr Try.f10 23 false) Code.ret) Code.skip)) (Code.seq (cr Try.f10 24 false) (Code.seq (Code.seq (cr Try.f10 25 false) (Code.cond (Operand.tmp 102) (Code.seq (cr Try.f10 26 false) Code.ret) Code.skip)) (Code.seq (cr Try.f10 27 false) (Code.seq (cr Try.f10 28 false) (Code.seq (Code.seq (cr Try.f10 29 false) (Code.cond (Operand.tmp 107) (Code.seq (cr Try.f10 30 false) Code.ret) Code.skip)) (Code.seq (Code.seq (cr Try.f10 31 false) (Code.cond (Operand.tmp 110) (Code.seq (cr Try.f10 32 false) Code.ret) Code.skip)) (Code.seq (cr Try.f10 33 false) Code.ret))))))))))))))))))))))))) := by kernel_rfl
set_option maxRecDepth 20000 in
set_option maxHeartbeats 1000000 in
theorem law10_walk (w0 : World) (s0 : Sl) (l0 : List (List LT)) (f : Int) (arg : Int) (fuel : Int) (hr0 : RdA w0 s0 l0) :
  Calls Try.prog 10 #[.agg #[.slice s0.A s0.n s0.c], iv f, iv arg, iv fuel] w0 (Ret fun r w' => r = .bool true ∧ Below w0.heap.size w0 w') := by
 have hS : Sat w0 w0 [] := Sat.start w0
 refine enter (n := 111) Try.func10 code10 (by kernel_rfl) (Nat.le_of_ble_eq_true rfl) (fun a ha => ?_)
 replace ha : Has 111 [(0, .agg #[.slice s0.A s0.n s0.c]), (1, iv f), (2, iv arg), (3, iv fuel)] a := ha
 refine wp_seq (jX [0, 1] (jK (qV 4 [.slice s0.A s0.n s0.c] 24 (ptr · 0) ha hS fun b1 w a hb2 hS ha => ?_)))
 refine jQ [(1, 8, .bool false)] ha fun a ha => ?_
 refine jY (jJ (wp_seq (jX [0] (jQ [(0, 9, iv 1048576)] ha fun a ha => ?_))))
 refine jY (jJ (wp_seq (jX [0, 1, 2, 3] (zZ 20 ha (hS.blk 0 rfl) fun a ha => ?_))))
 refine jQ [(1, 21, iv 1048576)] ha fun a ha => ?_
 refine jK (qH 22 (vs := [.agg #[.slice s0.A s0.n s0.c], iv 1048576]) ha (szProgram_sat hS (hr0.sat hS) (by omega) (by omega)) fun v3 w a hp4 ha => ?_)
 obtain ⟨rfl, hS⟩ := hp4
 refine jQ [(3, 9, iv (szP l0 1048576))] ha fun a ha => ?_
 refine jY (jJ (wp_seq (wp_seq (jX [0, 1] (jQ [(0, 23, iv (szP l0 1048576)), (1, 24, .bool (decide ((szP l0 1048576) < 0)))] ha fun a ha => ?_)))))
 refine jY (jJ ?_)
 by_cases c5 : (szP l0 1048576) < 0
 ·
  refine jU ha rfl (decide_eq_true c5) ?_
  refine wp_seq (jX [0] (jQ [(0, 8, .bool true)] ha fun a ha => ?_))
  refine jY (jJ (wp_ret (qU (xQ ha (by kernel_rfl) (yQ (t := 8) ha rfl) ?_))))
  exact ⟨rfl, hS.below⟩
 have hf0 : Fits l0 := by have h8 : 0 ≤ szP l0 1048576 := (by omega); have h9 := szP_ok l0 1048576 h8; exact ⟨by omega, by omega⟩
 have htp0 := (toP_fits hf0).tot
 have hz0 := szP_ok l0 1048576 (by omega)
 refine jV ha rfl (decide_eq_false c5) ?_
 refine wp_skip (jJ (wp_seq (jX [0, 1, 2, 3, 4, 5, 6, 7, 8, 9, 10] (zZ 26 ha (hS.blk 0 rfl) fun a ha => ?_))))
 refine jK (qH 27 (vs := [.agg #[.slice s0.A s0.n s0.c]]) ha (toProgram_sat hS (hr0.sat hS) hf0) fun v6 w a hp7 ha => ?_)
 obtain ⟨sp1, rfl, hS⟩ := hp7
 refine jQ [(2, 28, iv f), (3, 29, iv arg), (4, 30, iv fuel)] ha fun a ha => ?_
 refine jK (qH 31 (vs := [.agg #[.slice sp1.A sp1.n sp1.c], iv f, iv arg, iv fuel]) ha (spec_CleanupFails_sat hS (hS.rdS 0 rfl) (toP_fits hf0)) fun v8 w a hp9 ha => ?_)
 obtain ⟨o1, rfl, hS⟩ := hp9
 refine jQ [(6, 25, .tuple #[.slice o1.A o1.n o1.c, .bool ((failP (toP l0) f arg fuel).2)]), (7, 32, .slice o1.A o1.n o1.c), (8, 33, .bool ((failP (toP l0) f arg fuel).2)), (9, 10, .slice o1.A o1.n o1.c), (10, 11, .bool ((failP (toP l0) f arg fuel).2))] ha fun a ha => ?_
 refine jY (jJ (wp_seq (jX [0, 1, 2, 3] (zZ 34 ha (hS.blk 2 rfl) fun a ha => ?_))))
 refine jK (qH 35 (vs := [.agg #[.slice s0.A s0.n s0.c]]) ha (toProgram_sat hS (hr0.sat hS) hf0) fun v10 w a hp11 ha => ?_)
 obtain ⟨sp2, rfl, hS⟩ := hp11
 refine jK (qV 12 [.slice none 0 0] 35 (ptr · 0) ha hS fun b12 w a hb13 hS ha => ?_)
 refine jK (jW 0 ha (xJ (t := 35) (x := 12) (y := 35)) rfl rfl rfl (by kernel_rfl) hS rfl (Nat.le_of_ble_eq_true rfl) rfl fun w a hS ha => ?_)
 refine jY (jJ (wp_seq (jX [0, 1, 2, 3, 4, 5, 6, 7, 8, 9] (zZ 37 ha (hS.blk 0 rfl) fun a ha => ?_))))
 refine jQ [(1, 38, iv f), (2, 39, iv arg), (3, 40, iv fuel)] ha fun a ha => ?_
 refine jK (qH 41 (vs := [.agg #[.slice sp2.A sp2.n sp2.c], iv f, iv arg, iv fuel]) ha (impl_CleanupFails_sat hS (hS.rdS 1 rfl) (toP_fits hf0)) fun v14 w a hp15 ha => ?_)
 obtain ⟨o2, rfl, hS⟩ := hp15
 refine jQ [(5, 36, .tuple #[.slice o2.A o2.n o2.c, .bool ((failP (toP l0) f arg fuel).2)]), (6, 42, .slice o2.A o2.n o2.c), (7, 43, .bool ((failP (toP l0) f arg fuel).2)), (8, 13, .slice o2.A o2.n o2.c), (9, 14, .bool ((failP (toP l0) f arg fuel).2))] ha fun a ha => ?_
 refine jY ?_
 replace ha := ha.as [(1, iv f), (2, iv arg), (3, iv fuel), (4, ptr b1 0), (8, .bool false), (10, .slice o1.A o1.n o1.c), (11, .bool ((failP (toP l0) f arg fuel).2)), (12, ptr b12 0), (13, .slice o2.A o2.n o2.c), (14, .bool ((failP (toP l0) f arg fuel).2))] rfl
 refine jJ (wp_seq (wp_seq (jX [0, 1, 2, 3, 4, 5, 6, 7, 8] (jQ [(0, 44, .slice o2.A o2.n o2.c), (1, 45, .slice o1.A o1.n o1.c)] ha fun a ha => ?_))))
 refine jK (qH 46 (vs := [.slice o2.A o2.n o2.c, .slice o1.A o1.n o1.c]) ha (eqIntS_sat hS (hS.rdRow (s := o2) 0 rfl) (hS.rdRow (s := o1) 3 rfl)) fun v16 w a hp17 ha => ?_)
 obtain ⟨rfl, hS⟩ := hp17
 refine jQ [(3, 47, .bool false), (4, 48, .bool false), (5, 49, .bool ((failP (toP l0) f arg fuel).2)), (6, 50, .bool ((failP (toP l0) f arg fuel).2))] ha fun a ha => ?_
 refine yH (.bool false) ha ((qK (v := .bool (!(((failP (toP l0) f arg fuel).2) == ((failP (toP l0) f arg fuel).2)))) ha (AtG.here (gd := 48) ⟨(by kernel_rfl : ((qQ Try.f10 8)[7]?).map spec = some ((Op.binOp BinOp.neq 4 (Operand.tmp 49) (Operand.tmp 50) 4), some 51, 4, some (4, false))), by kernel_rfl⟩ ha rfl) (by kernel_rfl) (fun _ => by kernel_rfl)).as (by simp)) fun a ha => ?_
 refine jQ [(8, 52, .bool false)] ha fun a ha => ?_
 refine jY (jJ ?_)
 refine jV ha rfl rfl ?_
 refine wp_skip (jJ (wp_seq (wp_seq (xZ 5 5 (hS.pickN 6 [1, 5] (by decide) rfl) hS fun w hS => ?_))))
 refine xH 0 53 ha (hS.pickN 6 [1, 5] (by decide) rfl) (fun _ hw => hw.blk 0 rfl) fun a ha => ?_
 refine xH 1 54 ha (hS.pickN 6 [1, 5] (by decide) rfl) (fun _ hw => hw.blk 1 rfl) fun a ha => ?_
 refine qJ 2 (qH 55 (vs := [.agg #[.slice s0.A s0.n s0.c]]) ha (toProgram_sat hS (hr0.sat hS) hf0) fun v18 w a hp19 ha => ?_)
 obtain ⟨sp3, rfl, hS⟩ := hp19
 refine ⟨.inr (hS.pickN 7 [2, 6] (by decide) rfl), ?_⟩
 refine qJ 3 (qH 56 (vs := [.agg #[.slice sp2.A sp2.n sp2.c], .agg #[.slice sp3.A sp3.n sp3.c]]) ha (eqP_sat hS (hS.rdS 3 rfl) (hS.rdS 0 rfl) (toP_fits hf0)) fun v20 w a hp21 ha => ?_)
 obtain ⟨rfl, hS⟩ := hp21
 refine ⟨.inr (hS.pickN 7 [2, 6] (by decide) rfl), ?_⟩
 refine jZ (k := 0) [(4, 57, .bool false)] ha (.inr (hS.pickN 7 [2, 6] (by decide) rfl)) fun a ha => ?_
 refine xX (jJ ?_)
 refine jV ha rfl rfl ?_
 refine wp_skip (jJ (wp_seq (jX [0] (jQ [(0, 15, iv 1)] ha fun a ha => ?_))))
 refine jY (jJ (wp_seq (jX [0, 1, 2, 3] (zZ 58 ha (hS.blk 2 rfl) fun a ha => ?_))))
 refine jQ [(1, 59, iv 1)] ha fun a ha => ?_
 replace hS := hS.pickN 7 [3, 0, 1, 2, 4, 5, 6] (by decide) rfl
 refine jK (qH 60 (vs := [.agg #[.slice sp2.A sp2.n sp2.c], iv 1]) ha (markProgram_sat hS (toP_fits hf0) (by omega) (by omega)) fun v22 w a hp23 ha => ?_)
 obtain ⟨rfl, hS⟩ := hp23
 refine jQ [(3, 15, iv (1 + 3 * (tot (toP l0) : Int)))] ha fun a ha => ?_
 refine jY ?_
 replace ha := ha.as [(1, iv f), (2, iv arg), (3, iv fuel), (4, ptr b1 0), (8, .bool false), (10, .slice o1.A o1.n o1.c), (11, .bool ((failP (toP l0) f arg fuel).2)), (13, .slice o2.A o2.n o2.c), (14, .bool ((failP (toP l0) f arg fuel).2)), (15, iv (1 + 3 * (tot (toP l0) : Int)))] rfl
 refine jJ (wp_seq (wp_seq (jX [0, 1, 2, 3, 4, 5, 6, 7, 8, 9, 10, 11, 12] (jQ [(0, 61, iv (1 + 3 * (tot (toP l0) : Int)))] ha fun a ha => ?_))))
 refine yH (.bool false) ha ((qK (v := .bool (decide (1 + 3 * (tot (toP l0) : Int) < 0))) ha (zG (op := (Op.binOp BinOp.lss 3 (Operand.tmp 61) (Operand.const (Value.int IntKind.i64 0)) 3)) (d := some 62) (ty := 4)) (by kernel_rfl) (fun _ => by kernel_rfl)).as (by rw [decide_eq_false (by omega)])) fun a ha => ?_
 refine jQ [(2, 63, .bool false), (3, 64, .slice o2.A o2.n o2.c), (4, 65, .slice o1.A o1.n o1.c)] ha fun a ha => ?_
 refine jK (qH 66 (vs := [.slice o2.A o2.n o2.c, .slice o1.A o1.n o1.c]) ha (eqIntS_sat hS (hS.rdRow (s := o2) 2 rfl) (hS.rdRow (s := o1) 4 rfl)) fun v24 w a hp25 ha => ?_)
 obtain ⟨rfl, hS⟩ := hp25
 refine jQ [(6, 67, .bool false), (7, 68, .bool false), (8, 69, .bool false), (9, 70, .bool ((failP (toP l0) f arg fuel).2)), (10, 71, .bool ((failP (toP l0) f arg fuel).2))] ha fun a ha => ?_
 refine yH (.bool false) ha ((qK (v := .bool (!(((failP (toP l0) f arg fuel).2) == ((failP (toP l0) f arg fuel).2)))) ha (AtG.here (gd := 69) ⟨(by kernel_rfl : ((qQ Try.f10 14)[11]?).map spec = some ((Op.binOp BinOp.neq 4 (Operand.tmp 70) (Operand.tmp 71) 4), some 72, 4, some (8, false))), by kernel_rfl⟩ ha rfl) (by kernel_rfl) (fun _ => by kernel_rfl)).as (by simp)) fun a ha => ?_
 refine jQ [(12, 73, .bool false)] ha fun a ha => ?_
 refine jY (jJ ?_)
 refine jV ha rfl rfl ?_
 refine wp_skip (jJ (wp_seq (jX [0] (jQ [(0, 16, iv 1)] ha fun a ha => ?_))))
 refine jY (jJ (wp_seq (jX [0, 1, 2, 3] (jQ [(0, 74, .slice o2.A o2.n o2.c), (1, 75, iv 1)] ha fun a ha => ?_))))
 replace hS := hS.pickN 7 [2, 0, 1, 3, 4, 5, 6] (by decide) rfl
 refine jK (qH 76 (vs := [.slice o2.A o2.n o2.c, iv 1]) ha (markG_sat hS (by omega) (by omega) (Nat.le_trans (failP_len ..) (by decide))) fun v26 w a hp27 ha => ?_)
 obtain ⟨rfl, hS⟩ := hp27
 refine jQ [(3, 16, iv (1 + (((failP (toP l0) f arg fuel).1).length : Int)))] ha fun a ha => ?_
 refine jY ?_
 replace ha := ha.as [(1, iv f), (2, iv arg), (3, iv fuel), (4, ptr b1 0), (8, .bool false), (10, .slice o1.A o1.n o1.c), (11, .bool ((failP (toP l0) f arg fuel).2)), (13, .slice o2.A o2.n o2.c), (16, iv (1 + (((failP (toP l0) f arg fuel).1).length : Int)))] rfl
 refine jJ (wp_seq (jX [0] (jQ [(0, 17, iv 1)] ha fun a ha => ?_)))
 refine jY (jJ (wp_seq (jX [0, 1, 2, 3] (jQ [(0, 77, .slice o2.A o2.n o2.c), (1, 78, iv 1)] ha fun a ha => ?_))))
 refine jK (qH 79 (vs := [.slice o2.A o2.n o2.c, iv 1]) ha (heldI_sat hS (hS.rdRow (s := o2) 0 rfl) (Nat.le_trans (failP_len ..) (by decide))) fun v28 w a hp29 ha => ?_)
 obtain ⟨rfl, hS⟩ := hp29
 refine jQ [(3, 17, iv (1 + (((failP (toP l0) f arg fuel).1).length : Int)))] ha fun a ha => ?_
 refine jY (jJ (wp_seq (wp_seq (jX [0, 1] (jQ [(0, 80, iv (1 + (((failP (toP l0) f arg fuel).1).length : Int)))] ha fun a ha => ?_)))))
 refine yH (.bool false) ha ((qK (v := .bool (decide (1 + (((failP (toP l0) f arg fuel).1).length : Int) < 0))) ha (zG (op := (Op.binOp BinOp.lss 3 (Operand.tmp 80) (Operand.const (Value.int IntKind.i64 0)) 3)) (d := some 81) (ty := 4)) (by kernel_rfl) (fun _ => by kernel_rfl)).as (by rw [decide_eq_false (by omega)])) fun a ha => ?_
 refine jY (jJ ?_)
 refine jV ha rfl rfl ?_
 refine wp_skip (jJ (wp_seq (wp_seq (jX [0, 1, 2] (jQ [(0, 82, iv (1 + (((failP (toP l0) f arg fuel).1).length : Int))), (1, 83, iv (1 + (((failP (toP l0) f arg fuel).1).length : Int)))] ha fun a ha => ?_)))))
 refine yH (.bool false) ha ((qK (v := .bool (!(decide (1 + (((failP (toP l0) f arg fuel).1).length : Int) = 1 + (((failP (toP l0) f arg fuel).1).length : Int))))) ha (zG (op := (Op.binOp BinOp.neq 3 (Operand.tmp 82) (Operand.tmp 83) 3)) (d := some 84) (ty := 4)) (by kernel_rfl) (fun _ => by kernel_rfl)).as (by simp)) fun a ha => ?_
 refine jY (jJ ?_)
 refine jV ha rfl rfl ?_
 refine wp_skip (jJ (wp_seq (jX [0, 1, 2, 3, 4, 5, 6, 7, 8, 9, 10] (zZ 86 ha (hS.blk 6 rfl) fun a ha => ?_))))
 refine jK (qH 87 (vs := [.agg #[.slice s0.A s0.n s0.c]]) ha (toProgram_sat hS (hr0.sat hS) hf0) fun v30 w a hp31 ha => ?_)
 obtain ⟨sp4, rfl, hS⟩ := hp31
 refine jQ [(2, 88, iv f), (3, 89, iv arg), (4, 90, iv fuel)] ha fun a ha => ?_
 refine jK (qH 91 (vs := [.agg #[.slice sp4.A sp4.n sp4.c], iv f, iv arg, iv fuel]) ha (impl_CleanupFails_sat hS (hS.rdS 0 rfl) (toP_fits hf0)) fun v32 w a hp33 ha => ?_)
 obtain ⟨o3, rfl, hS⟩ := hp33
 refine jQ [(6, 85, .tuple #[.slice o3.A o3.n o3.c, .bool ((failP (toP l0) f arg fuel).2)]), (7, 92, .slice o3.A o3.n o3.c), (8, 93, .bool ((failP (toP l0) f arg fuel).2)), (9, 18, .slice o3.A o3.n o3.c), (10, 19, .bool ((failP (toP l0) f arg fuel).2))] ha fun a ha => ?_
 refine jY ?_
 replace ha := ha.as [(8, .bool false), (10, .slice o1.A o1.n o1.c), (11, .bool ((failP (toP l0) f arg fuel).2)), (13, .slice o2.A o2.n o2.c), (16, iv (1 + (((failP (toP l0) f arg fuel).1).length : Int))), (17, iv (1 + (((failP (toP l0) f arg fuel).1).length : Int))), (18, .slice o3.A o3.n o3.c), (19, .bool ((failP (toP l0) f arg fuel).2))] rfl
 refine jJ (wp_seq (wp_seq (jX [0, 1, 2, 3, 4, 5, 6, 7, 8] (jQ [(0, 94, .slice o3.A o3.n o3.c), (1, 95, .slice o1.A o1.n o1.c)] ha fun a ha => ?_))))
 refine jK (qH 96 (vs := [.slice o3.A o3.n o3.c, .slice o1.A o1.n o1.c]) ha (eqIntS_sat hS (hS.rdRow (s := o3) 0 rfl) (hS.rdRow (s := o1) 6 rfl)) fun v34 w a hp35 ha => ?_)
 obtain ⟨rfl, hS⟩ := hp35
 refine jQ [(3, 97, .bool false), (4, 98, .bool false), (5, 99, .bool ((failP (toP l0) f arg fuel).2)), (6, 100, .bool ((failP (toP l0) f arg fuel).2))] ha fun a ha => ?_
 refine yH (.bool false) ha ((qK (v := .bool (!(((failP (toP l0) f arg fuel).2) == ((failP (toP l0) f arg fuel).2)))) ha (AtG.here (gd := 98) ⟨(by kernel_rfl : ((qQ Try.f10 25)[7]?).map spec = some ((Op.binOp BinOp.neq 4 (Operand.tmp 99) (Operand.tmp 100) 4), some 101, 4, some (4, false))), by kernel_rfl⟩ ha rfl) (by kernel_rfl) (fun _ => by kernel_rfl)).as (by simp)) fun a ha => ?_
 refine jQ [(8, 102, .bool false)] ha fun a ha => ?_
 refine jY (jJ ?_)
 refine jV ha rfl rfl ?_
 refine wp_skip (jJ (wp_seq (jX [0] (jQ [(0, 17, iv 1)] ha fun a ha => ?_))))
 refine jY (jJ (wp_seq (jX [0, 1, 2, 3] (jQ [(0, 103, .slice o2.A o2.n o2.c), (1, 104, iv 1)] ha fun a ha => ?_))))
 refine jK (qH 105 (vs := [.slice o2.A o2.n o2.c, iv 1]) ha (heldI_sat hS (hS.rdRow (s := o2) 2 rfl) (Nat.le_trans (failP_len ..) (by decide))) fun v36 w a hp37 ha => ?_)
 obtain ⟨rfl, hS⟩ := hp37
 refine jQ [(3, 17, iv (1 + (((failP (toP l0) f arg fuel).1).length : Int)))] ha fun a ha => ?_
 refine jY ?_
 replace ha := ha.as [(8, .bool false), (16, iv (1 + (((failP (toP l0) f arg fuel).1).length : Int))), (17, iv (1 + (((failP (toP l0) f arg fuel).1).length : Int)))] rfl
 refine jJ (wp_seq (wp_seq (jX [0, 1] (jQ [(0, 106, iv (1 + (((failP (toP l0) f arg fuel).1).length : Int)))] ha fun a ha => ?_))))
 refine yH (.bool false) ha ((qK (v := .bool (decide (1 + (((failP (toP l0) f arg fuel).1).length : Int) < 0))) ha (zG (op := (Op.binOp BinOp.lss 3 (Operand.tmp 106) (Operand.const (Value.int IntKind.i64 0)) 3)) (d := some 107) (ty := 4)) (by kernel_rfl) (fun _ => by kernel_rfl)).as (by rw [decide_eq_false (by omega)])) fun a ha => ?_
 refine jY (jJ ?_)
 refine jV ha rfl rfl ?_
 refine wp_skip (jJ (wp_seq (wp_seq (jX [0, 1, 2] (jQ [(0, 108, iv (1 + (((failP (toP l0) f arg fuel).1).length : Int))), (1, 109, iv (1 + (((failP (toP l0) f arg fuel).1).length : Int)))] ha fun a ha => ?_)))))
 refine yH (.bool false) ha ((qK (v := .bool (!(decide (1 + (((failP (toP l0) f arg fuel).1).length : Int) = 1 + (((failP (toP l0) f arg fuel).1).length : Int))))) ha (zG (op := (Op.binOp BinOp.neq 3 (Operand.tmp 108) (Operand.tmp 109) 3)) (d := some 110) (ty := 4)) (by kernel_rfl) (fun _ => by kernel_rfl)).as (by simp)) fun a ha => ?_
 refine jY (jJ ?_)
 refine jV ha rfl rfl ?_
 refine wp_skip (jJ (wp_seq (jX [0] (jQ [(0, 8, .bool true)] ha fun a ha => ?_))))
 refine jY (jJ (wp_ret (xQ ha (by kernel_rfl) (yQ (t := 8) ha rfl) ?_)))
 exact ⟨rfl, hS.below⟩
end Go.Proofs.Ytjkoibfkklhaiaa.G
end
