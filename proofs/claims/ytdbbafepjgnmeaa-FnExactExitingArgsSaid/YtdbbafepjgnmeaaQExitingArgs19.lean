/- What the claim FnExactExitingArgs rests on, part 19 of 20; the last part proves it: for every input the law answers true, and its arguments read behind the call as before it. No condition. -/
import Derived.Test.YtdbbafepjgnmeaaQExitingArgs18
section
namespace Go.Proofs.Ytdbbafepjgnmeaa.G
open Go.RowKit Go.Proofs.Ytdbbafepjgnmeaa.SX Go.Proofs.YtdbbafepjgnmeaaW.PrintWords Go.Proofs.YtdbbafepjgnmeaaW.PrintLast Go.Proofs.YtdbbafepjgnmeaaW.PrintMore
set_option linter.unusedVariables false
set_option linter.unusedSimpArgs false
theorem code9 : Try.f9.body = some (Code.seq (Code.region 0 (regOf Try.f9 0) false) (Code.seq (Code.region 1 (regOf Try.f9 1) false) (Code.seq (Code.region 2 (regOf Try.f9 2) false) (Code.seq (Code.seq (Code.region 3 (regOf Try.f9 3) false) (Code.cond (Operand.tmp 26) (Code.seq (Code.region 4 (regOf Try.f9 4) false) Code.ret) Code.skip)) (Code.seq (Code.region 5 (regOf Try.f9 5) false) (Code.seq (Code.region 6 (regOf Try.f9 6) false) (Code.seq (Code.region 7 (regOf Try.f9 7) false) (Code.seq (Code.seq (Code.region 8 (regOf Try.f9 8) false) (Code.cond (Operand.tmp 56) (Code.seq (Code.region 9 (regOf Try.f9 9) false) Code.ret) Code.skip)) (Code.seq (Code.seq (Code.region 10 (regOf Try.f9 10) true) (Code.cond (Operand.tmp 61) (Code.seq (Code.region 11 (regOf Try.f9 11) false) Code.ret) Code.skip)) (Code.seq (Code.region 12 (regOf Try.f9 12) false) (Code.seq (Code.region 13 (regOf Try.f9 13) false) (Code.seq (Code.seq (Code.region 14 (regOf Try.f9 14) false) (Code.cond (Operand.tmp 77) (Code.seq (Code.region 15 (regOf Try.f9 15) false) Code.ret) Code.skip)) (Code.seq (Code.region 16 (regOf Try.f9 16) false) (Code.seq (Code.region 17 (regOf Try.f9 17) false) (Code.seq (Code.region 18 (regOf Try.f9 18) false) (Code.seq (Code.region 19 (regOf Try.f9 19) false) (Code.seq (Code.seq (Code.region 20 (regOf Try.f9 20) false) (Code.cond (Operand.tmp 85) (Code.seq (Code.region 21 (regOf Try.f9 21) false) Code.ret) Code.skip)) (Code.seq (Code.seq (Code.region 22 (regOf Try.f9 22) false) (Code.cond (Operand.tmp 88) (Code.seq (Code.region 23 (regOf Try.f9 23) false) Code.ret) Code.skip)) (Code.seq (Code.region 24 (regOf Try.f9 24) false) (Code.seq (Code.seq (Code.region 25 (regOf Try.f9 25) false) (Code.cond (Operand.tmp 107) (Code.seq (Code.region 26 (regOf Try.f9 26) false) Code.ret) Code.skip)) (Code.seq (Code.region 27 (regOf Try.f9 27) false) (Code.seq (Code.region 28 (regOf Try.f9 28) false) (Code.seq (Code.seq (Code.region 29 (regOf Try.f9 29) false) (Code.cond (Operand.tmp 112) (Code.seq (Code.region 30 (regOf Try.f9 30) false) Code.ret) Code.skip)) (Code.seq (Code.seq (Code.region 31 (regOf Try.f9 31) false) (Code.cond (Operand.tmp 115) (Code.seq (Code.region 32 (regOf Try.f9 32) false) Code.ret) Code.skip)) (Code.seq (Code.region 33 (regOf Try.f9 33) false) Code.ret))))))))))))))))))))))))) := by kernel_rfl
set_option maxRecDepth 20000 in
set_option maxHeartbeats 1000000 in
theorem law9_walk (w0 : World) (s0 : Sl) (l0 : List (List LT)) (f : Int) (low : Int) (high : Int) (fuel : Int) (hr0 : RdA w0 s0 l0) :
  Calls Try.prog 9 #[.agg #[.slice s0.A s0.n s0.c], iv f, iv low, iv high, iv fuel] w0 (Ret fun r w' => r = .bool true ∧ Below w0.heap.size w0 w') := by
 have hS : Sat w0 w0 [] := Sat.start w0
 refine enter (n := 116) Try.func9 code9 (by kernel_rfl) (Nat.le_of_ble_eq_true rfl) (fun a ha => ?_)
 replace ha : Has 116 [(0, .agg #[.slice s0.A s0.n s0.c]), (1, iv f), (2, iv low), (3, iv high), (4, iv fuel)] a := ha
 refine wp_seq ?_
 refine p_beginL [0, 1] ?_
 refine p_op (o_new (cs := [.slice s0.A s0.n s0.c]) (T := 24) (fun b => .pointer (some ⟨b, 0, none⟩)) ha (by decide) (iAt (op := (Op.box 24 (Operand.tmp 0))) (d := some 5) (ty := 0)) (by kernel_rfl) hS (fun _ => by kernel_rfl) fun b1 w a hb2 hS ha => ?_)
 refine p_run [(1, 10, .bool false)] ha fun a ha => ?_
 refine p_end ?_
 refine then_n ?_
 refine wp_seq ?_
 refine p_beginL [0] ?_
 refine p_run [(0, 11, iv 1048576)] ha fun a ha => ?_
 refine p_end ?_
 refine then_n ?_
 refine wp_seq ?_
 refine p_beginL [0, 1, 2, 3] ?_
 refine p_val ha (by decide) (v_loadW ha (iAt (op := (Op.load 24 (Operand.tmp 5))) (d := some 22) (ty := 24)) rfl (by kernel_rfl) (fun _ hw => by rw [hw]; exact hS.blk 0 rfl)) (fun a ha => ?_)
 refine p_run [(1, 23, iv 1048576)] ha fun a ha => ?_
 refine p_op (o_ret ha (by decide) (iAt (op := (Op.call { callee := (Callee.value (Operand.func 13)), args := #[(Operand.tmp 22), (Operand.tmp 23)], argTypes := #[24, 3] })) (d := some 24) (ty := 3)) rfl Try.func13 (by kernel_rfl) (szProgram_sat hS (hr0.sat hS) (by omega) (by omega)) fun v3 w a hp4 ha => ?_)
 obtain ⟨rfl, hS⟩ := hp4
 refine p_run [(3, 11, iv (szP l0 1048576))] ha fun a ha => ?_
 refine p_end ?_
 refine then_n ?_
 refine wp_seq ?_
 refine wp_seq ?_
 refine p_beginL [0, 1] ?_
 refine p_run [(0, 25, iv (szP l0 1048576)), (1, 26, .bool (decide ((szP l0 1048576) < 0)))] ha fun a ha => ?_
 refine p_end ?_
 refine then_n ?_
 by_cases c5 : (szP l0 1048576) < 0
 ·
  refine c_true ha rfl (decide_eq_true c5) ?_
  refine wp_seq ?_
  refine p_beginL [0] ?_
  refine p_run [(0, 10, .bool true)] ha fun a ha => ?_
  refine p_end ?_
  refine then_n ?_
  refine wp_ret ?_
  refine then_r ?_
  refine end_res1 ha (by kernel_rfl) (resT (t := 10) ha rfl) ?_
  exact ⟨rfl, hS.below⟩
 ·
  have hf : Fits l0 := by have h8 : 0 ≤ szP l0 1048576 := (by omega); have h9 := szP_ok l0 1048576 h8; exact ⟨by omega, by omega⟩
  refine c_false ha rfl (decide_eq_false c5) ?_
  refine wp_skip ?_
  refine then_n ?_
  refine wp_seq ?_
  refine p_beginL [0, 1, 2, 3, 4, 5, 6, 7, 8, 9, 10, 11] ?_
  refine p_val ha (by decide) (v_loadW ha (iAt (op := (Op.load 24 (Operand.tmp 5))) (d := some 28) (ty := 24)) rfl (by kernel_rfl) (fun _ hw => by rw [hw]; exact hS.blk 0 rfl)) (fun a ha => ?_)
  refine p_op (o_ret ha (by decide) (iAt (op := (Op.call { callee := (Callee.value (Operand.func 15)), args := #[(Operand.tmp 28)], argTypes := #[24] })) (d := some 29) (ty := 31)) rfl Try.func15 (by kernel_rfl) (toProgram_sat hS (hr0.sat hS) hf) fun v6 w a hp7 ha => ?_)
  obtain ⟨s1, rfl, hS⟩ := hp7
  refine p_run [(2, 30, iv f), (3, 31, iv low), (4, 32, iv high), (5, 33, iv fuel)] ha fun a ha => ?_
  refine p_op (o_ret ha (by decide) (iAt (op := (Op.call { callee := (Callee.value (Operand.func 33)), args := #[(Operand.tmp 29), (Operand.tmp 30), (Operand.tmp 31), (Operand.tmp 32), (Operand.tmp 33)], argTypes := #[31, 3, 3, 3, 3] })) (d := some 34) (ty := 41)) rfl Try.func33 (by kernel_rfl) (spec_ExitingArgs_sat hS (hS.rdS 0 rfl) (toP_fits hf)) fun v8 w a hp9 ha => ?_)
  obtain ⟨o1, rfl, hS⟩ := hp9
  refine p_run [(7, 27, .tuple #[.slice o1.A o1.n o1.c, .bool ((exitsP (toP l0) f low high fuel).2)]), (8, 35, .slice o1.A o1.n o1.c), (9, 36, .bool ((exitsP (toP l0) f low high fuel).2)), (10, 12, .slice o1.A o1.n o1.c), (11, 13, .bool ((exitsP (toP l0) f low high fuel).2))] ha fun a ha => ?_
  refine p_end ?_
  refine then_n ?_
  refine wp_seq ?_
  refine p_beginL [0, 1, 2, 3] ?_
  refine p_val ha (by decide) (v_loadW ha (iAt (op := (Op.load 24 (Operand.tmp 5))) (d := some 37) (ty := 24)) rfl (by kernel_rfl) (fun _ hw => by rw [hw]; exact hS.blk 2 rfl)) (fun a ha => ?_)
  refine p_op (o_ret ha (by decide) (iAt (op := (Op.call { callee := (Callee.value (Operand.func 15)), args := #[(Operand.tmp 37)], argTypes := #[24] })) (d := some 38) (ty := 31)) rfl Try.func15 (by kernel_rfl) (toProgram_sat hS (hr0.sat hS) hf) fun v10 w a hp11 ha => ?_)
  obtain ⟨s2, rfl, hS⟩ := hp11
  refine p_op (o_new (cs := [.slice none 0 0]) (T := 31) (fun b => .pointer (some ⟨b, 0, none⟩)) ha (by decide) (iAt (op := (Op.alloc 31)) (d := some 14) (ty := 0)) (by kernel_rfl) hS (fun _ => by kernel_rfl) fun b12 w a hb13 hS ha => ?_)
  refine p_op (o_storeAgg 0 ha (iAt (op := (Op.store 31 (Operand.tmp 14) (Operand.tmp 38))) (ty := 0)) rfl rfl rfl (by kernel_rfl) hS rfl (Nat.le_of_ble_eq_true rfl) rfl fun w a hS ha => ?_)
  refine p_end ?_
  refine then_n ?_
  refine wp_seq ?_
  refine p_beginL [0, 1, 2, 3, 4, 5, 6, 7, 8, 9, 10] ?_
  refine p_val ha (by decide) (v_loadW ha (iAt (op := (Op.load 31 (Operand.tmp 14))) (d := some 40) (ty := 31)) rfl (by kernel_rfl) (fun _ hw => by rw [hw]; exact hS.blk 0 rfl)) (fun a ha => ?_)
  refine p_run [(1, 41, iv f), (2, 42, iv low), (3, 43, iv high), (4, 44, iv fuel)] ha fun a ha => ?_
  refine p_op (o_ret ha (by decide) (iAt (op := (Op.call { callee := (Callee.value (Operand.func 34)), args := #[(Operand.tmp 40), (Operand.tmp 41), (Operand.tmp 42), (Operand.tmp 43), (Operand.tmp 44)], argTypes := #[31, 3, 3, 3, 3] })) (d := some 45) (ty := 41)) rfl Try.func34 (by kernel_rfl) (impl_ExitingArgs_sat hS (hS.rdS 1 rfl) (toP_fits hf)) fun v14 w a hp15 ha => ?_)
  obtain ⟨o2, rfl, hS⟩ := hp15
  refine p_run [(6, 39, .tuple #[.slice o2.A o2.n o2.c, .bool ((exitsP (toP l0) f low high fuel).2)]), (7, 46, .slice o2.A o2.n o2.c), (8, 47, .bool ((exitsP (toP l0) f low high fuel).2)), (9, 15, .slice o2.A o2.n o2.c), (10, 16, .bool ((exitsP (toP l0) f low high fuel).2))] ha fun a ha => ?_
  refine p_end ?_
  replace ha := ha.as [(1, iv f), (2, iv low), (3, iv high), (4, iv fuel), (5, ptr b1 0), (10, .bool false), (12, .slice o1.A o1.n o1.c), (13, .bool ((exitsP (toP l0) f low high fuel).2)), (14, ptr b12 0), (15, .slice o2.A o2.n o2.c), (16, .bool ((exitsP (toP l0) f low high fuel).2))] rfl
  refine then_n ?_
  refine wp_seq ?_
  refine wp_seq ?_
  refine p_beginL [0, 1, 2, 3, 4, 5, 6, 7, 8] ?_
  refine p_run [(0, 48, .slice o2.A o2.n o2.c), (1, 49, .slice o1.A o1.n o1.c)] ha fun a ha => ?_
  refine p_op (o_ret ha (by decide) (iAt (op := (Op.call { callee := (Callee.value (Operand.func 29)), args := #[(Operand.tmp 48), (Operand.tmp 49)], argTypes := #[40, 40] })) (d := some 50) (ty := 4)) rfl Try.func29 (by kernel_rfl) (eqI_sat hS (hS.rdRow (s := o2) 0 rfl) (hS.rdRow (s := o1) 3 rfl)) fun v16 w a hp17 ha => ?_)
  obtain ⟨rfl, hS⟩ := hp17
  refine p_run [(3, 51, .bool false), (4, 52, .bool false), (5, 53, .bool ((exitsP (toP l0) f low high fuel).2)), (6, 54, .bool ((exitsP (toP l0) f low high fuel).2))] ha fun a ha => ?_
  refine p_val (v := .bool false) ha (by decide) ((v_pure (v := .bool (!(((exitsP (toP l0) f low high fuel).2) == ((exitsP (toP l0) f low high fuel).2)))) ha (AtG.here (gd := 52) ⟨(by kernel_rfl : ((regOf Try.f9 8)[7]?).map spec = some ((Op.binOp BinOp.neq 4 (Operand.tmp 53) (Operand.tmp 54) 4), some 55, 4, some (4, false))), by kernel_rfl⟩ ha rfl) (by kernel_rfl) (fun _ => by kernel_rfl)).as (by simp)) (fun a ha => ?_)
  refine p_run [(8, 56, .bool false)] ha fun a ha => ?_
  refine p_end ?_
  refine then_n ?_
  refine c_false ha rfl rfl ?_
  refine wp_skip ?_
  refine then_n ?_
  refine wp_seq ?_
  refine wp_seq ?_
  refine d_startP 5 5 (hS.pickN 6 [1, 5] (by decide) rfl) hS fun w hS => ?_
  refine d_val (i := 0) ha (by decide) (v_loadW ha (iAt (op := (Op.load 31 (Operand.tmp 14))) (d := some 57) (ty := 31)) rfl (by kernel_rfl) (fun _ hw => hw.blk 0 rfl)) (hS.pickN 6 [1, 5] (by decide) rfl) (by kernel_rfl) (by kernel_rfl) (pk_then (pk_then (pk_body))) fun a ha => ?_
  refine d_val (i := 1) ha (by decide) (v_loadW ha (iAt (op := (Op.load 24 (Operand.tmp 5))) (d := some 58) (ty := 24)) rfl (by kernel_rfl) (fun _ hw => hw.blk 1 rfl)) (hS.pickN 6 [1, 5] (by decide) rfl) (by kernel_rfl) (by kernel_rfl) (pk_then (pk_then (pk_body))) fun a ha => ?_
  refine d_one (i := 2) (by kernel_rfl) (o_ret ha (by decide) (iAt (op := (Op.call { callee := (Callee.value (Operand.func 15)), args := #[(Operand.tmp 58)], argTypes := #[24] })) (d := some 59) (ty := 31)) rfl Try.func15 (by kernel_rfl) (toProgram_sat hS (hr0.sat hS) hf) fun v18 w a hp19 ha => ?_)
  obtain ⟨s3, rfl, hS⟩ := hp19
  refine ⟨.inr (hS.pickN 7 [2, 6] (by decide) rfl), ?_⟩
  refine d_one (i := 3) (by kernel_rfl) (o_ret ha (by decide) (iAt (op := (Op.call { callee := (Callee.value (Operand.func 18)), args := #[(Operand.tmp 57), (Operand.tmp 59)], argTypes := #[31, 31] })) (d := some 60) (ty := 4)) rfl Try.func18 (by kernel_rfl) (eqP_sat hS (hS.rdS 3 rfl) (hS.rdS 0 rfl) (toP_fits hf)) fun v20 w a hp21 ha => ?_)
  obtain ⟨rfl, hS⟩ := hp21
  refine ⟨.inr (hS.pickN 7 [2, 6] (by decide) rfl), ?_⟩
  refine d_run (k := 0) [(4, 61, .bool false)] ha (.inr (hS.pickN 7 [2, 6] (by decide) rfl)) (pk_then (pk_then (pk_body))) fun a ha => ?_
  refine d_end (by kernel_rfl) ?_ _
  refine then_n ?_
  refine c_false ha rfl rfl ?_
  refine wp_skip ?_
  refine then_n ?_
  refine wp_seq ?_
  refine p_beginL [0] ?_
  refine p_run [(0, 17, iv 1)] ha fun a ha => ?_
  refine p_end ?_
  refine then_n ?_
  refine wp_seq ?_
  refine p_beginL [0, 1, 2, 3] ?_
  refine p_val ha (by decide) (v_loadW ha (iAt (op := (Op.load 31 (Operand.tmp 14))) (d := some 62) (ty := 31)) rfl (by kernel_rfl) (fun _ hw => by rw [hw]; exact hS.blk 2 rfl)) (fun a ha => ?_)
  refine p_run [(1, 63, iv 1)] ha fun a ha => ?_
  replace hS : Sat w0 w ((prg w0.heap.size s2 (toP l0)) :: (prg w0.heap.size s3 (toP l0)) :: (SX.row (.slice o2.A o2.n o2.c) 3 1 (encI ((exitsP (toP l0) f low high fuel).1))) :: (SX.blk b12 [.slice s2.A s2.n s2.c] 31) :: (SX.row (.slice o1.A o1.n o1.c) 3 1 (encI ((exitsP (toP l0) f low high fuel).1))) :: (prg w0.heap.size s1 (toP l0)) :: (SX.blk b1 [.slice s0.A s0.n s0.c] 24) :: []) := hS.pickN 7 [3, 0, 1, 2, 4, 5, 6] (by decide) rfl
  refine p_op (o_ret ha (by decide) (iAt (op := (Op.call { callee := (Callee.value (Operand.func 30)), args := #[(Operand.tmp 62), (Operand.tmp 63)], argTypes := #[31, 3] })) (d := some 64) (ty := 3)) rfl Try.func30 (by kernel_rfl) (markProgram_sat hS (toP_fits hf) (by omega) (by omega)) fun v22 w a hp23 ha => ?_)
  obtain ⟨rfl, hS⟩ := hp23
  refine p_run [(3, 17, iv (1 + 3 * (tot (toP l0) : Int)))] ha fun a ha => ?_
  refine p_end ?_
  replace ha := ha.as [(1, iv f), (2, iv low), (3, iv high), (4, iv fuel), (5, ptr b1 0), (10, .bool false), (12, .slice o1.A o1.n o1.c), (13, .bool ((exitsP (toP l0) f low high fuel).2)), (15, .slice o2.A o2.n o2.c), (16, .bool ((exitsP (toP l0) f low high fuel).2)), (17, iv (1 + 3 * (tot (toP l0) : Int)))] rfl
  refine then_n ?_
  refine wp_seq ?_
  refine wp_seq ?_
  refine p_beginL [0, 1, 2, 3, 4, 5, 6, 7, 8, 9, 10, 11, 12] ?_
  refine p_run [(0, 65, iv (1 + 3 * (tot (toP l0) : Int)))] ha fun a ha => ?_
  refine p_val (v := .bool false) ha (by decide) ((v_pure (v := .bool (decide (1 + 3 * (tot (toP l0) : Int) < 0))) ha (iAt (op := (Op.binOp BinOp.lss 3 (Operand.tmp 65) (Operand.const (Value.int IntKind.i64 0)) 3)) (d := some 66) (ty := 4)) (by kernel_rfl) (fun _ => by kernel_rfl)).as (by rw [decide_eq_false (by omega)])) (fun a ha => ?_)
  refine p_run [(2, 67, .bool false), (3, 68, .slice o2.A o2.n o2.c), (4, 69, .slice o1.A o1.n o1.c)] ha fun a ha => ?_
  refine p_op (o_ret ha (by decide) (AtG.here (gd := 67) ⟨(by kernel_rfl : ((regOf Try.f9 14)[5]?).map spec = some ((Op.call { callee := (Callee.value (Operand.func 29)), args := #[(Operand.tmp 68), (Operand.tmp 69)], argTypes := #[40, 40] }), some 70, 4, some (2, false))), by kernel_rfl⟩ ha rfl) rfl Try.func29 (by kernel_rfl) (eqI_sat hS (hS.rdRow (s := o2) 2 rfl) (hS.rdRow (s := o1) 4 rfl)) fun v24 w a hp25 ha => ?_)
  obtain ⟨rfl, hS⟩ := hp25
  refine p_run [(6, 71, .bool false), (7, 72, .bool false), (8, 73, .bool false), (9, 74, .bool ((exitsP (toP l0) f low high fuel).2)), (10, 75, .bool ((exitsP (toP l0) f low high fuel).2))] ha fun a ha => ?_
  refine p_val (v := .bool false) ha (by decide) ((v_pure (v := .bool (!(((exitsP (toP l0) f low high fuel).2) == ((exitsP (toP l0) f low high fuel).2)))) ha (AtG.here (gd := 73) ⟨(by kernel_rfl : ((regOf Try.f9 14)[11]?).map spec = some ((Op.binOp BinOp.neq 4 (Operand.tmp 74) (Operand.tmp 75) 4), some 76, 4, some (8, false))), by kernel_rfl⟩ ha rfl) (by kernel_rfl) (fun _ => by kernel_rfl)).as (by simp)) (fun a ha => ?_)
  refine p_run [(12, 77, .bool false)] ha fun a ha => ?_
  refine p_end ?_
  refine then_n ?_
  refine c_false ha rfl rfl ?_
  refine wp_skip ?_
  refine then_n ?_
  refine wp_seq ?_
  refine p_beginL [0] ?_
  refine p_run [(0, 18, iv 1)] ha fun a ha => ?_
  refine p_end ?_
  refine then_n ?_
  refine wp_seq ?_
  refine p_beginL [0, 1, 2, 3] ?_
  refine p_run [(0, 78, .slice o2.A o2.n o2.c), (1, 79, iv 1)] ha fun a ha => ?_
  replace hS : Sat w0 w ((SX.row (.slice o2.A o2.n o2.c) 3 1 (encI ((exitsP (toP l0) f low high fuel).1))) :: (prg w0.heap.size s2 (mkSS 1 (toP l0))) :: (prg w0.heap.size s3 (toP l0)) :: (SX.blk b12 [.slice s2.A s2.n s2.c] 31) :: (SX.row (.slice o1.A o1.n o1.c) 3 1 (encI ((exitsP (toP l0) f low high fuel).1))) :: (prg w0.heap.size s1 (toP l0)) :: (SX.blk b1 [.slice s0.A s0.n s0.c] 24) :: []) := hS.pickN 7 [2, 0, 1, 3, 4, 5, 6] (by decide) rfl
  refine p_op (o_ret ha (by decide) (iAt (op := (Op.call { callee := (Callee.value (Operand.func 31)), args := #[(Operand.tmp 78), (Operand.tmp 79)], argTypes := #[40, 3] })) (d := some 80) (ty := 3)) rfl Try.func31 (by kernel_rfl) (markI_sat hS (exitsP_len ..)) fun v26 w a hp27 ha => ?_)
  obtain ⟨rfl, hS⟩ := hp27
  refine p_run [(3, 18, iv (1 + (((exitsP (toP l0) f low high fuel).1).length : Int)))] ha fun a ha => ?_
  refine p_end ?_
  replace ha := ha.as [(1, iv f), (2, iv low), (3, iv high), (4, iv fuel), (5, ptr b1 0), (10, .bool false), (12, .slice o1.A o1.n o1.c), (13, .bool ((exitsP (toP l0) f low high fuel).2)), (15, .slice o2.A o2.n o2.c), (18, iv (1 + (((exitsP (toP l0) f low high fuel).1).length : Int)))] rfl
  refine then_n ?_
  refine wp_seq ?_
  refine p_beginL [0] ?_
  refine p_run [(0, 19, iv 1)] ha fun a ha => ?_
  refine p_end ?_
  refine then_n ?_
  refine wp_seq ?_
  refine p_beginL [0, 1, 2, 3] ?_
  refine p_run [(0, 81, .slice o2.A o2.n o2.c), (1, 82, iv 1)] ha fun a ha => ?_
  refine p_op (o_ret ha (by decide) (iAt (op := (Op.call { callee := (Callee.value (Operand.func 32)), args := #[(Operand.tmp 81), (Operand.tmp 82)], argTypes := #[40, 3] })) (d := some 83) (ty := 3)) rfl Try.func32 (by kernel_rfl) (heldI_sat hS (hS.rdRow (s := o2) 0 rfl) (exitsP_len ..)) fun v28 w a hp29 ha => ?_)
  obtain ⟨rfl, hS⟩ := hp29
  refine p_run [(3, 19, iv (1 + (((exitsP (toP l0) f low high fuel).1).length : Int)))] ha fun a ha => ?_
  refine p_end ?_
  refine then_n ?_
  refine wp_seq ?_
  refine wp_seq ?_
  refine p_beginL [0, 1] ?_
  refine p_run [(0, 84, iv (1 + (((exitsP (toP l0) f low high fuel).1).length : Int)))] ha fun a ha => ?_
  refine p_val (v := .bool false) ha (by decide) ((v_pure (v := .bool (decide (1 + (((exitsP (toP l0) f low high fuel).1).length : Int) < 0))) ha (iAt (op := (Op.binOp BinOp.lss 3 (Operand.tmp 84) (Operand.const (Value.int IntKind.i64 0)) 3)) (d := some 85) (ty := 4)) (by kernel_rfl) (fun _ => by kernel_rfl)).as (by rw [decide_eq_false (by omega)])) (fun a ha => ?_)
  refine p_end ?_
  refine then_n ?_
  refine c_false ha rfl rfl ?_
  refine wp_skip ?_
  refine then_n ?_
  refine wp_seq ?_
  refine wp_seq ?_
  refine p_beginL [0, 1, 2] ?_
  refine p_run [(0, 86, iv (1 + (((exitsP (toP l0) f low high fuel).1).length : Int))), (1, 87, iv (1 + (((exitsP (toP l0) f low high fuel).1).length : Int)))] ha fun a ha => ?_
  refine p_val (v := .bool false) ha (by decide) ((v_pure (v := .bool (!(decide (1 + (((exitsP (toP l0) f low high fuel).1).length : Int) = 1 + (((exitsP (toP l0) f low high fuel).1).length : Int))))) ha (iAt (op := (Op.binOp BinOp.neq 3 (Operand.tmp 86) (Operand.tmp 87) 3)) (d := some 88) (ty := 4)) (by kernel_rfl) (fun _ => by kernel_rfl)).as (by simp)) (fun a ha => ?_)
  refine p_end ?_
  refine then_n ?_
  refine c_false ha rfl rfl ?_
  refine wp_skip ?_
  refine then_n ?_
  refine wp_seq ?_
  refine p_beginL [0, 1, 2, 3, 4, 5, 6, 7, 8, 9, 10, 11] ?_
  refine p_val ha (by decide) (v_loadW ha (iAt (op := (Op.load 24 (Operand.tmp 5))) (d := some 90) (ty := 24)) rfl (by kernel_rfl) (fun _ hw => by rw [hw]; exact hS.blk 6 rfl)) (fun a ha => ?_)
  refine p_op (o_ret ha (by decide) (iAt (op := (Op.call { callee := (Callee.value (Operand.func 15)), args := #[(Operand.tmp 90)], argTypes := #[24] })) (d := some 91) (ty := 31)) rfl Try.func15 (by kernel_rfl) (toProgram_sat hS (hr0.sat hS) hf) fun v30 w a hp31 ha => ?_)
  obtain ⟨s4, rfl, hS⟩ := hp31
  refine p_run [(2, 92, iv f), (3, 93, iv low), (4, 94, iv high), (5, 95, iv fuel)] ha fun a ha => ?_
  refine p_op (o_ret ha (by decide) (iAt (op := (Op.call { callee := (Callee.value (Operand.func 34)), args := #[(Operand.tmp 91), (Operand.tmp 92), (Operand.tmp 93), (Operand.tmp 94), (Operand.tmp 95)], argTypes := #[31, 3, 3, 3, 3] })) (d := some 96) (ty := 41)) rfl Try.func34 (by kernel_rfl) (impl_ExitingArgs_sat hS (hS.rdS 0 rfl) (toP_fits hf)) fun v32 w a hp33 ha => ?_)
  obtain ⟨o3, rfl, hS⟩ := hp33
  refine p_run [(7, 89, .tuple #[.slice o3.A o3.n o3.c, .bool ((exitsP (toP l0) f low high fuel).2)]), (8, 97, .slice o3.A o3.n o3.c), (9, 98, .bool ((exitsP (toP l0) f low high fuel).2)), (10, 20, .slice o3.A o3.n o3.c), (11, 21, .bool ((exitsP (toP l0) f low high fuel).2))] ha fun a ha => ?_
  refine p_end ?_
  replace ha := ha.as [(10, .bool false), (12, .slice o1.A o1.n o1.c), (13, .bool ((exitsP (toP l0) f low high fuel).2)), (15, .slice o2.A o2.n o2.c), (18, iv (1 + (((exitsP (toP l0) f low high fuel).1).length : Int))), (19, iv (1 + (((exitsP (toP l0) f low high fuel).1).length : Int))), (20, .slice o3.A o3.n o3.c), (21, .bool ((exitsP (toP l0) f low high fuel).2))] rfl
  refine then_n ?_
  refine wp_seq ?_
  refine wp_seq ?_
  refine p_beginL [0, 1, 2, 3, 4, 5, 6, 7, 8] ?_
  refine p_run [(0, 99, .slice o3.A o3.n o3.c), (1, 100, .slice o1.A o1.n o1.c)] ha fun a ha => ?_
  refine p_op (o_ret ha (by decide) (iAt (op := (Op.call { callee := (Callee.value (Operand.func 29)), args := #[(Operand.tmp 99), (Operand.tmp 100)], argTypes := #[40, 40] })) (d := some 101) (ty := 4)) rfl Try.func29 (by kernel_rfl) (eqI_sat hS (hS.rdRow (s := o3) 0 rfl) (hS.rdRow (s := o1) 6 rfl)) fun v34 w a hp35 ha => ?_)
  obtain ⟨rfl, hS⟩ := hp35
  refine p_run [(3, 102, .bool false), (4, 103, .bool false), (5, 104, .bool ((exitsP (toP l0) f low high fuel).2)), (6, 105, .bool ((exitsP (toP l0) f low high fuel).2))] ha fun a ha => ?_
  refine p_val (v := .bool false) ha (by decide) ((v_pure (v := .bool (!(((exitsP (toP l0) f low high fuel).2) == ((exitsP (toP l0) f low high fuel).2)))) ha (AtG.here (gd := 103) ⟨(by kernel_rfl : ((regOf Try.f9 25)[7]?).map spec = some ((Op.binOp BinOp.neq 4 (Operand.tmp 104) (Operand.tmp 105) 4), some 106, 4, some (4, false))), by kernel_rfl⟩ ha rfl) (by kernel_rfl) (fun _ => by kernel_rfl)).as (by simp)) (fun a ha => ?_)
  refine p_run [(8, 107, .bool false)] ha fun a ha => ?_
  refine p_end ?_
  refine then_n ?_
  refine c_false ha rfl rfl ?_
  refine wp_skip ?_
  refine then_n ?_
  refine wp_seq ?_
  refine p_beginL [0] ?_
  refine p_run [(0, 19, iv 1)] ha fun a ha => ?_
  refine p_end ?_
  refine then_n ?_
  refine wp_seq ?_
  refine p_beginL [0, 1, 2, 3] ?_
  refine p_run [(0, 108, .slice o2.A o2.n o2.c), (1, 109, iv 1)] ha fun a ha => ?_
  refine p_op (o_ret ha (by decide) (iAt (op := (Op.call { callee := (Callee.value (Operand.func 32)), args := #[(Operand.tmp 108), (Operand.tmp 109)], argTypes := #[40, 3] })) (d := some 110) (ty := 3)) rfl Try.func32 (by kernel_rfl) (heldI_sat hS (hS.rdRow (s := o2) 2 rfl) (exitsP_len ..)) fun v36 w a hp37 ha => ?_)
  obtain ⟨rfl, hS⟩ := hp37
  refine p_run [(3, 19, iv (1 + (((exitsP (toP l0) f low high fuel).1).length : Int)))] ha fun a ha => ?_
  refine p_end ?_
  replace ha := ha.as [(10, .bool false), (18, iv (1 + (((exitsP (toP l0) f low high fuel).1).length : Int))), (19, iv (1 + (((exitsP (toP l0) f low high fuel).1).length : Int)))] rfl
  refine then_n ?_
  refine wp_seq ?_
  refine wp_seq ?_
  refine p_beginL [0, 1] ?_
  refine p_run [(0, 111, iv (1 + (((exitsP (toP l0) f low high fuel).1).length : Int)))] ha fun a ha => ?_
  refine p_val (v := .bool false) ha (by decide) ((v_pure (v := .bool (decide (1 + (((exitsP (toP l0) f low high fuel).1).length : Int) < 0))) ha (iAt (op := (Op.binOp BinOp.lss 3 (Operand.tmp 111) (Operand.const (Value.int IntKind.i64 0)) 3)) (d := some 112) (ty := 4)) (by kernel_rfl) (fun _ => by kernel_rfl)).as (by rw [decide_eq_false (by omega)])) (fun a ha => ?_)
  refine p_end ?_
  refine then_n ?_
  refine c_false ha rfl rfl ?_
  refine wp_skip ?_
  refine then_n ?_
  refine wp_seq ?_
  refine wp_seq ?_
  refine p_beginL [0, 1, 2] ?_
  refine p_run [(0, 113, iv (1 + (((exitsP (toP l0) f low high fuel).1).length : Int))), (1, 114, iv (1 + (((exitsP (toP l0) f low high fuel).1).length : Int)))] ha fun a ha => ?_
  refine p_val (v := .bool false) ha (by decide) ((v_pure (v := .bool (!(decide (1 + (((exitsP (toP l0) f low high fuel).1).length : Int) = 1 + (((exitsP (toP l0) f low high fuel).1).length : Int))))) ha (iAt (op := (Op.binOp BinOp.neq 3 (Operand.tmp 113) (Operand.tmp 114) 3)) (d := some 115) (ty := 4)) (by kernel_rfl) (fun _ => by kernel_rfl)).as (by simp)) (fun a ha => ?_)
  refine p_end ?_
  refine then_n ?_
  refine c_false ha rfl rfl ?_
  refine wp_skip ?_
  refine then_n ?_
  refine wp_seq ?_
  refine p_beginL [0] ?_
  refine p_run [(0, 10, .bool true)] ha fun a ha => ?_
  refine p_end ?_
  refine then_n ?_
  refine wp_ret ?_
  refine end_res1 ha (by kernel_rfl) (resT (t := 10) ha rfl) ?_
  exact ⟨rfl, hS.below⟩
end Go.Proofs.Ytdbbafepjgnmeaa.G
end
