/- What the claim FnExactExitPath rests on, part 19 of 20; the last part proves it: for every input the law answers true, and its arguments read behind the call as before it. No condition. -/
import Derived.Test.YtdbbafepjgnmeaaQExitPath18
section
namespace Go.Proofs.Ytdbbafepjgnmeaa.G
open Go.RowKit Go.Proofs.Ytdbbafepjgnmeaa.SX Go.Proofs.YtdbbafepjgnmeaaW.PrintWords Go.Proofs.YtdbbafepjgnmeaaW.PrintLast Go.Proofs.YtdbbafepjgnmeaaW.PrintMore
set_option linter.unusedVariables false
set_option linter.unusedSimpArgs false
theorem code8 : Try.f8.body = some (Code.seq (Code.region 0 (regOf Try.f8 0) false) (Code.seq (Code.region 1 (regOf Try.f8 1) false) (Code.seq (Code.region 2 (regOf Try.f8 2) false) (Code.seq (Code.seq (Code.region 3 (regOf Try.f8 3) false) (Code.cond (Operand.tmp 24) (Code.seq (Code.region 4 (regOf Try.f8 4) false) Code.ret) Code.skip)) (Code.seq (Code.region 5 (regOf Try.f8 5) false) (Code.seq (Code.region 6 (regOf Try.f8 6) false) (Code.seq (Code.region 7 (regOf Try.f8 7) false) (Code.seq (Code.seq (Code.region 8 (regOf Try.f8 8) false) (Code.cond (Operand.tmp 52) (Code.seq (Code.region 9 (regOf Try.f8 9) false) Code.ret) Code.skip)) (Code.seq (Code.seq (Code.region 10 (regOf Try.f8 10) true) (Code.cond (Operand.tmp 57) (Code.seq (Code.region 11 (regOf Try.f8 11) false) Code.ret) Code.skip)) (Code.seq (Code.region 12 (regOf Try.f8 12) false) (Code.seq (Code.region 13 (regOf Try.f8 13) false) (Code.seq (Code.seq (Code.region 14 (regOf Try.f8 14) false) (Code.cond (Operand.tmp 73) (Code.seq (Code.region 15 (regOf Try.f8 15) false) Code.ret) Code.skip)) (Code.seq (Code.region 16 (regOf Try.f8 16) false) (Code.seq (Code.region 17 (regOf Try.f8 17) false) (Code.seq (Code.region 18 (regOf Try.f8 18) false) (Code.seq (Code.region 19 (regOf Try.f8 19) false) (Code.seq (Code.seq (Code.region 20 (regOf Try.f8 20) false) (Code.cond (Operand.tmp 81) (Code.seq (Code.region 21 (regOf Try.f8 21) false) Code.ret) Code.skip)) (Code.seq (Code.seq (Code.region 22 (regOf Try.f8 22) false) (Code.cond (Operand.tmp 84) (Code.seq (Code.region 23 (regOf Try.f8 23) false) Code.ret) Code.skip)) (Code.seq (Code.region 24 (regOf Try.f8 24) false) (Code.seq (Code.seq (Code.region 25 (regOf Try.f8 25) false) (Code.cond (Operand.tmp 102) (Code.seq (Code.region 26 (regOf Try.f8 26) false) Code.ret) Code.skip)) (Code.seq (Code.region 27 (regOf Try.f8 27) false) (Code.seq (Code.region 28 (regOf Try.f8 28) false) (Code.seq (Code.seq (Code.region 29 (regOf Try.f8 29) false) (Code.cond (Operand.tmp 107) (Code.seq (Code.region 30 (regOf Try.f8 30) false) Code.ret) Code.skip)) (Code.seq (Code.seq (Code.region 31 (regOf Try.f8 31) false) (Code.cond (Operand.tmp 110) (Code.seq (Code.region 32 (regOf Try.f8 32) false) Code.ret) Code.skip)) (Code.seq (Code.region 33 (regOf Try.f8 33) false) Code.ret))))))))))))))))))))))))) := by kernel_rfl
set_option maxRecDepth 20000 in
set_option maxHeartbeats 1000000 in
theorem law8_walk (w0 : World) (s0 : Sl) (l0 : List (List LT)) (f : Int) (arg : Int) (fuel : Int) (hr0 : RdA w0 s0 l0) :
    Calls Try.prog 8 #[.agg #[.slice s0.A s0.n s0.c], iv f, iv arg, iv fuel] w0 (Ret fun r w' => r = .bool true ∧ Below w0.heap.size w0 w') := by
  have hS : Sat w0 w0 [] := Sat.start w0
  refine enter (n := 111) Try.func8 code8 (by kernel_rfl) (Nat.le_of_ble_eq_true rfl) (fun a ha => ?_)
  replace ha : Has 111 [(0, .agg #[.slice s0.A s0.n s0.c]), (1, iv f), (2, iv arg), (3, iv fuel)] a := ha
  refine wp_seq ?_
  refine p_beginL [0, 1] ?_
  refine p_op (o_new (cs := [.slice s0.A s0.n s0.c]) (T := 24) (fun b => .pointer (some ⟨b, 0, none⟩)) ha (by decide) (iAt (op := (Op.box 24 (Operand.tmp 0))) (d := some 4) (ty := 0)) (by kernel_rfl) hS (fun _ => by kernel_rfl) fun b1 w a hb2 hS ha => ?_)
  refine p_run [(1, 8, .bool false)] ha fun a ha => ?_
  refine p_end ?_
  refine then_n ?_
  refine wp_seq ?_
  refine p_beginL [0] ?_
  refine p_run [(0, 9, iv 1048576)] ha fun a ha => ?_
  refine p_end ?_
  refine then_n ?_
  refine wp_seq ?_
  refine p_beginL [0, 1, 2, 3] ?_
  refine p_val ha (by decide) (v_loadW ha (iAt (op := (Op.load 24 (Operand.tmp 4))) (d := some 20) (ty := 24)) rfl (by kernel_rfl) (fun _ hw => by rw [hw]; exact hS.blk 0 rfl)) (fun a ha => ?_)
  refine p_run [(1, 21, iv 1048576)] ha fun a ha => ?_
  refine p_op (o_ret ha (by decide) (iAt (op := (Op.call { callee := (Callee.value (Operand.func 13)), args := #[(Operand.tmp 20), (Operand.tmp 21)], argTypes := #[24, 3] })) (d := some 22) (ty := 3)) rfl Try.func13 (by kernel_rfl) (szProgram_sat hS (hr0.sat hS) (by omega) (by omega)) fun v3 w a hp4 ha => ?_)
  obtain ⟨rfl, hS⟩ := hp4
  refine p_run [(3, 9, iv (szP l0 1048576))] ha fun a ha => ?_
  refine p_end ?_
  refine then_n ?_
  refine wp_seq ?_
  refine wp_seq ?_
  refine p_beginL [0, 1] ?_
  refine p_run [(0, 23, iv (szP l0 1048576)), (1, 24, .bool (decide ((szP l0 1048576) < 0)))] ha fun a ha => ?_
  refine p_end ?_
  refine then_n ?_
  by_cases c5 : (szP l0 1048576) < 0
  ·
    refine c_true ha rfl (decide_eq_true c5) ?_
    refine wp_seq ?_
    refine p_beginL [0] ?_
    refine p_run [(0, 8, .bool true)] ha fun a ha => ?_
    refine p_end ?_
    refine then_n ?_
    refine wp_ret ?_
    refine then_r ?_
    refine end_res1 ha (by kernel_rfl) (resT (t := 8) ha rfl) ?_
    exact ⟨rfl, hS.below⟩
  ·
    have hf : Fits l0 := by have h8 : 0 ≤ szP l0 1048576 := (by omega); have h9 := szP_ok l0 1048576 h8; exact ⟨by omega, by omega⟩
    refine c_false ha rfl (decide_eq_false c5) ?_
    refine wp_skip ?_
    refine then_n ?_
    refine wp_seq ?_
    refine p_beginL [0, 1, 2, 3, 4, 5, 6, 7, 8, 9, 10] ?_
    refine p_val ha (by decide) (v_loadW ha (iAt (op := (Op.load 24 (Operand.tmp 4))) (d := some 26) (ty := 24)) rfl (by kernel_rfl) (fun _ hw => by rw [hw]; exact hS.blk 0 rfl)) (fun a ha => ?_)
    refine p_op (o_ret ha (by decide) (iAt (op := (Op.call { callee := (Callee.value (Operand.func 15)), args := #[(Operand.tmp 26)], argTypes := #[24] })) (d := some 27) (ty := 31)) rfl Try.func15 (by kernel_rfl) (toProgram_sat hS (hr0.sat hS) hf) fun v6 w a hp7 ha => ?_)
    obtain ⟨s1, rfl, hS⟩ := hp7
    refine p_run [(2, 28, iv f), (3, 29, iv arg), (4, 30, iv fuel)] ha fun a ha => ?_
    refine p_op (o_ret ha (by decide) (iAt (op := (Op.call { callee := (Callee.value (Operand.func 27)), args := #[(Operand.tmp 27), (Operand.tmp 28), (Operand.tmp 29), (Operand.tmp 30)], argTypes := #[31, 3, 3, 3] })) (d := some 31) (ty := 41)) rfl Try.func27 (by kernel_rfl) (spec_ExitPath_sat hS (hS.rdS 0 rfl) (toP_fits hf)) fun v8 w a hp9 ha => ?_)
    obtain ⟨o1, rfl, hS⟩ := hp9
    refine p_run [(6, 25, .tuple #[.slice o1.A o1.n o1.c, .bool ((exitP (toP l0) f arg fuel).2)]), (7, 32, .slice o1.A o1.n o1.c), (8, 33, .bool ((exitP (toP l0) f arg fuel).2)), (9, 10, .slice o1.A o1.n o1.c), (10, 11, .bool ((exitP (toP l0) f arg fuel).2))] ha fun a ha => ?_
    refine p_end ?_
    refine then_n ?_
    refine wp_seq ?_
    refine p_beginL [0, 1, 2, 3] ?_
    refine p_val ha (by decide) (v_loadW ha (iAt (op := (Op.load 24 (Operand.tmp 4))) (d := some 34) (ty := 24)) rfl (by kernel_rfl) (fun _ hw => by rw [hw]; exact hS.blk 2 rfl)) (fun a ha => ?_)
    refine p_op (o_ret ha (by decide) (iAt (op := (Op.call { callee := (Callee.value (Operand.func 15)), args := #[(Operand.tmp 34)], argTypes := #[24] })) (d := some 35) (ty := 31)) rfl Try.func15 (by kernel_rfl) (toProgram_sat hS (hr0.sat hS) hf) fun v10 w a hp11 ha => ?_)
    obtain ⟨s2, rfl, hS⟩ := hp11
    refine p_op (o_new (cs := [.slice none 0 0]) (T := 31) (fun b => .pointer (some ⟨b, 0, none⟩)) ha (by decide) (iAt (op := (Op.alloc 31)) (d := some 12) (ty := 0)) (by kernel_rfl) hS (fun _ => by kernel_rfl) fun b12 w a hb13 hS ha => ?_)
    refine p_op (o_storeAgg 0 ha (iAt (op := (Op.store 31 (Operand.tmp 12) (Operand.tmp 35))) (ty := 0)) rfl rfl rfl (by kernel_rfl) hS rfl (Nat.le_of_ble_eq_true rfl) rfl fun w a hS ha => ?_)
    refine p_end ?_
    refine then_n ?_
    refine wp_seq ?_
    refine p_beginL [0, 1, 2, 3, 4, 5, 6, 7, 8, 9] ?_
    refine p_val ha (by decide) (v_loadW ha (iAt (op := (Op.load 31 (Operand.tmp 12))) (d := some 37) (ty := 31)) rfl (by kernel_rfl) (fun _ hw => by rw [hw]; exact hS.blk 0 rfl)) (fun a ha => ?_)
    refine p_run [(1, 38, iv f), (2, 39, iv arg), (3, 40, iv fuel)] ha fun a ha => ?_
    refine p_op (o_ret ha (by decide) (iAt (op := (Op.call { callee := (Callee.value (Operand.func 28)), args := #[(Operand.tmp 37), (Operand.tmp 38), (Operand.tmp 39), (Operand.tmp 40)], argTypes := #[31, 3, 3, 3] })) (d := some 41) (ty := 41)) rfl Try.func28 (by kernel_rfl) (impl_ExitPath_sat hS (hS.rdS 1 rfl) (toP_fits hf)) fun v14 w a hp15 ha => ?_)
    obtain ⟨o2, rfl, hS⟩ := hp15
    refine p_run [(5, 36, .tuple #[.slice o2.A o2.n o2.c, .bool ((exitP (toP l0) f arg fuel).2)]), (6, 42, .slice o2.A o2.n o2.c), (7, 43, .bool ((exitP (toP l0) f arg fuel).2)), (8, 13, .slice o2.A o2.n o2.c), (9, 14, .bool ((exitP (toP l0) f arg fuel).2))] ha fun a ha => ?_
    refine p_end ?_
    replace ha := ha.as [(1, iv f), (2, iv arg), (3, iv fuel), (4, ptr b1 0), (8, .bool false), (10, .slice o1.A o1.n o1.c), (11, .bool ((exitP (toP l0) f arg fuel).2)), (12, ptr b12 0), (13, .slice o2.A o2.n o2.c), (14, .bool ((exitP (toP l0) f arg fuel).2))] rfl
    refine then_n ?_
    refine wp_seq ?_
    refine wp_seq ?_
    refine p_beginL [0, 1, 2, 3, 4, 5, 6, 7, 8] ?_
    refine p_run [(0, 44, .slice o2.A o2.n o2.c), (1, 45, .slice o1.A o1.n o1.c)] ha fun a ha => ?_
    refine p_op (o_ret ha (by decide) (iAt (op := (Op.call { callee := (Callee.value (Operand.func 29)), args := #[(Operand.tmp 44), (Operand.tmp 45)], argTypes := #[40, 40] })) (d := some 46) (ty := 4)) rfl Try.func29 (by kernel_rfl) (eqI_sat hS (hS.rdRow (s := o2) 0 rfl) (hS.rdRow (s := o1) 3 rfl)) fun v16 w a hp17 ha => ?_)
    obtain ⟨rfl, hS⟩ := hp17
    refine p_run [(3, 47, .bool false), (4, 48, .bool false), (5, 49, .bool ((exitP (toP l0) f arg fuel).2)), (6, 50, .bool ((exitP (toP l0) f arg fuel).2))] ha fun a ha => ?_
    refine p_val (v := .bool false) ha (by decide) ((v_pure (v := .bool (!(((exitP (toP l0) f arg fuel).2) == ((exitP (toP l0) f arg fuel).2)))) ha (AtG.here (gd := 48) ⟨(by kernel_rfl : ((regOf Try.f8 8)[7]?).map spec = some ((Op.binOp BinOp.neq 4 (Operand.tmp 49) (Operand.tmp 50) 4), some 51, 4, some (4, false))), by kernel_rfl⟩ ha rfl) (by kernel_rfl) (fun _ => by kernel_rfl)).as (by simp)) (fun a ha => ?_)
    refine p_run [(8, 52, .bool false)] ha fun a ha => ?_
    refine p_end ?_
    refine then_n ?_
    refine c_false ha rfl rfl ?_
    refine wp_skip ?_
    refine then_n ?_
    refine wp_seq ?_
    refine wp_seq ?_
    refine d_startP 5 5 (hS.pickN 6 [1, 5] (by decide) rfl) hS fun w hS => ?_
    refine d_val (i := 0) ha (by decide) (v_loadW ha (iAt (op := (Op.load 31 (Operand.tmp 12))) (d := some 53) (ty := 31)) rfl (by kernel_rfl) (fun _ hw => hw.blk 0 rfl)) (hS.pickN 6 [1, 5] (by decide) rfl) (by kernel_rfl) (by kernel_rfl) (pk_then (pk_then (pk_body))) fun a ha => ?_
    refine d_val (i := 1) ha (by decide) (v_loadW ha (iAt (op := (Op.load 24 (Operand.tmp 4))) (d := some 54) (ty := 24)) rfl (by kernel_rfl) (fun _ hw => hw.blk 1 rfl)) (hS.pickN 6 [1, 5] (by decide) rfl) (by kernel_rfl) (by kernel_rfl) (pk_then (pk_then (pk_body))) fun a ha => ?_
    refine d_one (i := 2) (by kernel_rfl) (o_ret ha (by decide) (iAt (op := (Op.call { callee := (Callee.value (Operand.func 15)), args := #[(Operand.tmp 54)], argTypes := #[24] })) (d := some 55) (ty := 31)) rfl Try.func15 (by kernel_rfl) (toProgram_sat hS (hr0.sat hS) hf) fun v18 w a hp19 ha => ?_)
    obtain ⟨s3, rfl, hS⟩ := hp19
    refine ⟨.inr (hS.pickN 7 [2, 6] (by decide) rfl), ?_⟩
    refine d_one (i := 3) (by kernel_rfl) (o_ret ha (by decide) (iAt (op := (Op.call { callee := (Callee.value (Operand.func 18)), args := #[(Operand.tmp 53), (Operand.tmp 55)], argTypes := #[31, 31] })) (d := some 56) (ty := 4)) rfl Try.func18 (by kernel_rfl) (eqP_sat hS (hS.rdS 3 rfl) (hS.rdS 0 rfl) (toP_fits hf)) fun v20 w a hp21 ha => ?_)
    obtain ⟨rfl, hS⟩ := hp21
    refine ⟨.inr (hS.pickN 7 [2, 6] (by decide) rfl), ?_⟩
    refine d_run (k := 0) [(4, 57, .bool false)] ha (.inr (hS.pickN 7 [2, 6] (by decide) rfl)) (pk_then (pk_then (pk_body))) fun a ha => ?_
    refine d_end (by kernel_rfl) ?_ _
    refine then_n ?_
    refine c_false ha rfl rfl ?_
    refine wp_skip ?_
    refine then_n ?_
    refine wp_seq ?_
    refine p_beginL [0] ?_
    refine p_run [(0, 15, iv 1)] ha fun a ha => ?_
    refine p_end ?_
    refine then_n ?_
    refine wp_seq ?_
    refine p_beginL [0, 1, 2, 3] ?_
    refine p_val ha (by decide) (v_loadW ha (iAt (op := (Op.load 31 (Operand.tmp 12))) (d := some 58) (ty := 31)) rfl (by kernel_rfl) (fun _ hw => by rw [hw]; exact hS.blk 2 rfl)) (fun a ha => ?_)
    refine p_run [(1, 59, iv 1)] ha fun a ha => ?_
    replace hS : Sat w0 w ((prg w0.heap.size s2 (toP l0)) :: (prg w0.heap.size s3 (toP l0)) :: (SX.row (.slice o2.A o2.n o2.c) 3 1 (encI ((exitP (toP l0) f arg fuel).1))) :: (SX.blk b12 [.slice s2.A s2.n s2.c] 31) :: (SX.row (.slice o1.A o1.n o1.c) 3 1 (encI ((exitP (toP l0) f arg fuel).1))) :: (prg w0.heap.size s1 (toP l0)) :: (SX.blk b1 [.slice s0.A s0.n s0.c] 24) :: []) := hS.pickN 7 [3, 0, 1, 2, 4, 5, 6] (by decide) rfl
    refine p_op (o_ret ha (by decide) (iAt (op := (Op.call { callee := (Callee.value (Operand.func 30)), args := #[(Operand.tmp 58), (Operand.tmp 59)], argTypes := #[31, 3] })) (d := some 60) (ty := 3)) rfl Try.func30 (by kernel_rfl) (markProgram_sat hS (toP_fits hf) (by omega) (by omega)) fun v22 w a hp23 ha => ?_)
    obtain ⟨rfl, hS⟩ := hp23
    refine p_run [(3, 15, iv (1 + 3 * (tot (toP l0) : Int)))] ha fun a ha => ?_
    refine p_end ?_
    replace ha := ha.as [(1, iv f), (2, iv arg), (3, iv fuel), (4, ptr b1 0), (8, .bool false), (10, .slice o1.A o1.n o1.c), (11, .bool ((exitP (toP l0) f arg fuel).2)), (13, .slice o2.A o2.n o2.c), (14, .bool ((exitP (toP l0) f arg fuel).2)), (15, iv (1 + 3 * (tot (toP l0) : Int)))] rfl
    refine then_n ?_
    refine wp_seq ?_
    refine wp_seq ?_
    refine p_beginL [0, 1, 2, 3, 4, 5, 6, 7, 8, 9, 10, 11, 12] ?_
    refine p_run [(0, 61, iv (1 + 3 * (tot (toP l0) : Int)))] ha fun a ha => ?_
    refine p_val (v := .bool false) ha (by decide) ((v_pure (v := .bool (decide (1 + 3 * (tot (toP l0) : Int) < 0))) ha (iAt (op := (Op.binOp BinOp.lss 3 (Operand.tmp 61) (Operand.const (Value.int IntKind.i64 0)) 3)) (d := some 62) (ty := 4)) (by kernel_rfl) (fun _ => by kernel_rfl)).as (by rw [decide_eq_false (by omega)])) (fun a ha => ?_)
    refine p_run [(2, 63, .bool false), (3, 64, .slice o2.A o2.n o2.c), (4, 65, .slice o1.A o1.n o1.c)] ha fun a ha => ?_
    refine p_op (o_ret ha (by decide) (AtG.here (gd := 63) ⟨(by kernel_rfl : ((regOf Try.f8 14)[5]?).map spec = some ((Op.call { callee := (Callee.value (Operand.func 29)), args := #[(Operand.tmp 64), (Operand.tmp 65)], argTypes := #[40, 40] }), some 66, 4, some (2, false))), by kernel_rfl⟩ ha rfl) rfl Try.func29 (by kernel_rfl) (eqI_sat hS (hS.rdRow (s := o2) 2 rfl) (hS.rdRow (s := o1) 4 rfl)) fun v24 w a hp25 ha => ?_)
    obtain ⟨rfl, hS⟩ := hp25
    refine p_run [(6, 67, .bool false), (7, 68, .bool false), (8, 69, .bool false), (9, 70, .bool ((exitP (toP l0) f arg fuel).2)), (10, 71, .bool ((exitP (toP l0) f arg fuel).2))] ha fun a ha => ?_
    refine p_val (v := .bool false) ha (by decide) ((v_pure (v := .bool (!(((exitP (toP l0) f arg fuel).2) == ((exitP (toP l0) f arg fuel).2)))) ha (AtG.here (gd := 69) ⟨(by kernel_rfl : ((regOf Try.f8 14)[11]?).map spec = some ((Op.binOp BinOp.neq 4 (Operand.tmp 70) (Operand.tmp 71) 4), some 72, 4, some (8, false))), by kernel_rfl⟩ ha rfl) (by kernel_rfl) (fun _ => by kernel_rfl)).as (by simp)) (fun a ha => ?_)
    refine p_run [(12, 73, .bool false)] ha fun a ha => ?_
    refine p_end ?_
    refine then_n ?_
    refine c_false ha rfl rfl ?_
    refine wp_skip ?_
    refine then_n ?_
    refine wp_seq ?_
    refine p_beginL [0] ?_
    refine p_run [(0, 16, iv 1)] ha fun a ha => ?_
    refine p_end ?_
    refine then_n ?_
    refine wp_seq ?_
    refine p_beginL [0, 1, 2, 3] ?_
    refine p_run [(0, 74, .slice o2.A o2.n o2.c), (1, 75, iv 1)] ha fun a ha => ?_
    replace hS : Sat w0 w ((SX.row (.slice o2.A o2.n o2.c) 3 1 (encI ((exitP (toP l0) f arg fuel).1))) :: (prg w0.heap.size s2 (mkSS 1 (toP l0))) :: (prg w0.heap.size s3 (toP l0)) :: (SX.blk b12 [.slice s2.A s2.n s2.c] 31) :: (SX.row (.slice o1.A o1.n o1.c) 3 1 (encI ((exitP (toP l0) f arg fuel).1))) :: (prg w0.heap.size s1 (toP l0)) :: (SX.blk b1 [.slice s0.A s0.n s0.c] 24) :: []) := hS.pickN 7 [2, 0, 1, 3, 4, 5, 6] (by decide) rfl
    refine p_op (o_ret ha (by decide) (iAt (op := (Op.call { callee := (Callee.value (Operand.func 31)), args := #[(Operand.tmp 74), (Operand.tmp 75)], argTypes := #[40, 3] })) (d := some 76) (ty := 3)) rfl Try.func31 (by kernel_rfl) (markI_sat hS (exitP_len ..)) fun v26 w a hp27 ha => ?_)
    obtain ⟨rfl, hS⟩ := hp27
    refine p_run [(3, 16, iv (1 + (((exitP (toP l0) f arg fuel).1).length : Int)))] ha fun a ha => ?_
    refine p_end ?_
    replace ha := ha.as [(1, iv f), (2, iv arg), (3, iv fuel), (4, ptr b1 0), (8, .bool false), (10, .slice o1.A o1.n o1.c), (11, .bool ((exitP (toP l0) f arg fuel).2)), (13, .slice o2.A o2.n o2.c), (16, iv (1 + (((exitP (toP l0) f arg fuel).1).length : Int)))] rfl
    refine then_n ?_
    refine wp_seq ?_
    refine p_beginL [0] ?_
    refine p_run [(0, 17, iv 1)] ha fun a ha => ?_
    refine p_end ?_
    refine then_n ?_
    refine wp_seq ?_
    refine p_beginL [0, 1, 2, 3] ?_
    refine p_run [(0, 77, .slice o2.A o2.n o2.c), (1, 78, iv 1)] ha fun a ha => ?_
    refine p_op (o_ret ha (by decide) (iAt (op := (Op.call { callee := (Callee.value (Operand.func 32)), args := #[(Operand.tmp 77), (Operand.tmp 78)], argTypes := #[40, 3] })) (d := some 79) (ty := 3)) rfl Try.func32 (by kernel_rfl) (heldI_sat hS (hS.rdRow (s := o2) 0 rfl) (exitP_len ..)) fun v28 w a hp29 ha => ?_)
    obtain ⟨rfl, hS⟩ := hp29
    refine p_run [(3, 17, iv (1 + (((exitP (toP l0) f arg fuel).1).length : Int)))] ha fun a ha => ?_
    refine p_end ?_
    refine then_n ?_
    refine wp_seq ?_
    refine wp_seq ?_
    refine p_beginL [0, 1] ?_
    refine p_run [(0, 80, iv (1 + (((exitP (toP l0) f arg fuel).1).length : Int)))] ha fun a ha => ?_
    refine p_val (v := .bool false) ha (by decide) ((v_pure (v := .bool (decide (1 + (((exitP (toP l0) f arg fuel).1).length : Int) < 0))) ha (iAt (op := (Op.binOp BinOp.lss 3 (Operand.tmp 80) (Operand.const (Value.int IntKind.i64 0)) 3)) (d := some 81) (ty := 4)) (by kernel_rfl) (fun _ => by kernel_rfl)).as (by rw [decide_eq_false (by omega)])) (fun a ha => ?_)
    refine p_end ?_
    refine then_n ?_
    refine c_false ha rfl rfl ?_
    refine wp_skip ?_
    refine then_n ?_
    refine wp_seq ?_
    refine wp_seq ?_
    refine p_beginL [0, 1, 2] ?_
    refine p_run [(0, 82, iv (1 + (((exitP (toP l0) f arg fuel).1).length : Int))), (1, 83, iv (1 + (((exitP (toP l0) f arg fuel).1).length : Int)))] ha fun a ha => ?_
    refine p_val (v := .bool false) ha (by decide) ((v_pure (v := .bool (!(decide (1 + (((exitP (toP l0) f arg fuel).1).length : Int) = 1 + (((exitP (toP l0) f arg fuel).1).length : Int))))) ha (iAt (op := (Op.binOp BinOp.neq 3 (Operand.tmp 82) (Operand.tmp 83) 3)) (d := some 84) (ty := 4)) (by kernel_rfl) (fun _ => by kernel_rfl)).as (by simp)) (fun a ha => ?_)
    refine p_end ?_
    refine then_n ?_
    refine c_false ha rfl rfl ?_
    refine wp_skip ?_
    refine then_n ?_
    refine wp_seq ?_
    refine p_beginL [0, 1, 2, 3, 4, 5, 6, 7, 8, 9, 10] ?_
    refine p_val ha (by decide) (v_loadW ha (iAt (op := (Op.load 24 (Operand.tmp 4))) (d := some 86) (ty := 24)) rfl (by kernel_rfl) (fun _ hw => by rw [hw]; exact hS.blk 6 rfl)) (fun a ha => ?_)
    refine p_op (o_ret ha (by decide) (iAt (op := (Op.call { callee := (Callee.value (Operand.func 15)), args := #[(Operand.tmp 86)], argTypes := #[24] })) (d := some 87) (ty := 31)) rfl Try.func15 (by kernel_rfl) (toProgram_sat hS (hr0.sat hS) hf) fun v30 w a hp31 ha => ?_)
    obtain ⟨s4, rfl, hS⟩ := hp31
    refine p_run [(2, 88, iv f), (3, 89, iv arg), (4, 90, iv fuel)] ha fun a ha => ?_
    refine p_op (o_ret ha (by decide) (iAt (op := (Op.call { callee := (Callee.value (Operand.func 28)), args := #[(Operand.tmp 87), (Operand.tmp 88), (Operand.tmp 89), (Operand.tmp 90)], argTypes := #[31, 3, 3, 3] })) (d := some 91) (ty := 41)) rfl Try.func28 (by kernel_rfl) (impl_ExitPath_sat hS (hS.rdS 0 rfl) (toP_fits hf)) fun v32 w a hp33 ha => ?_)
    obtain ⟨o3, rfl, hS⟩ := hp33
    refine p_run [(6, 85, .tuple #[.slice o3.A o3.n o3.c, .bool ((exitP (toP l0) f arg fuel).2)]), (7, 92, .slice o3.A o3.n o3.c), (8, 93, .bool ((exitP (toP l0) f arg fuel).2)), (9, 18, .slice o3.A o3.n o3.c), (10, 19, .bool ((exitP (toP l0) f arg fuel).2))] ha fun a ha => ?_
    refine p_end ?_
    replace ha := ha.as [(8, .bool false), (10, .slice o1.A o1.n o1.c), (11, .bool ((exitP (toP l0) f arg fuel).2)), (13, .slice o2.A o2.n o2.c), (16, iv (1 + (((exitP (toP l0) f arg fuel).1).length : Int))), (17, iv (1 + (((exitP (toP l0) f arg fuel).1).length : Int))), (18, .slice o3.A o3.n o3.c), (19, .bool ((exitP (toP l0) f arg fuel).2))] rfl
    refine then_n ?_
    refine wp_seq ?_
    refine wp_seq ?_
    refine p_beginL [0, 1, 2, 3, 4, 5, 6, 7, 8] ?_
    refine p_run [(0, 94, .slice o3.A o3.n o3.c), (1, 95, .slice o1.A o1.n o1.c)] ha fun a ha => ?_
    refine p_op (o_ret ha (by decide) (iAt (op := (Op.call { callee := (Callee.value (Operand.func 29)), args := #[(Operand.tmp 94), (Operand.tmp 95)], argTypes := #[40, 40] })) (d := some 96) (ty := 4)) rfl Try.func29 (by kernel_rfl) (eqI_sat hS (hS.rdRow (s := o3) 0 rfl) (hS.rdRow (s := o1) 6 rfl)) fun v34 w a hp35 ha => ?_)
    obtain ⟨rfl, hS⟩ := hp35
    refine p_run [(3, 97, .bool false), (4, 98, .bool false), (5, 99, .bool ((exitP (toP l0) f arg fuel).2)), (6, 100, .bool ((exitP (toP l0) f arg fuel).2))] ha fun a ha => ?_
    refine p_val (v := .bool false) ha (by decide) ((v_pure (v := .bool (!(((exitP (toP l0) f arg fuel).2) == ((exitP (toP l0) f arg fuel).2)))) ha (AtG.here (gd := 98) ⟨(by kernel_rfl : ((regOf Try.f8 25)[7]?).map spec = some ((Op.binOp BinOp.neq 4 (Operand.tmp 99) (Operand.tmp 100) 4), some 101, 4, some (4, false))), by kernel_rfl⟩ ha rfl) (by kernel_rfl) (fun _ => by kernel_rfl)).as (by simp)) (fun a ha => ?_)
    refine p_run [(8, 102, .bool false)] ha fun a ha => ?_
    refine p_end ?_
    refine then_n ?_
    refine c_false ha rfl rfl ?_
    refine wp_skip ?_
    refine then_n ?_
    refine wp_seq ?_
    refine p_beginL [0] ?_
    refine p_run [(0, 17, iv 1)] ha fun a ha => ?_
    refine p_end ?_
    refine then_n ?_
    refine wp_seq ?_
    refine p_beginL [0, 1, 2, 3] ?_
    refine p_run [(0, 103, .slice o2.A o2.n o2.c), (1, 104, iv 1)] ha fun a ha => ?_
    refine p_op (o_ret ha (by decide) (iAt (op := (Op.call { callee := (Callee.value (Operand.func 32)), args := #[(Operand.tmp 103), (Operand.tmp 104)], argTypes := #[40, 3] })) (d := some 105) (ty := 3)) rfl Try.func32 (by kernel_rfl) (heldI_sat hS (hS.rdRow (s := o2) 2 rfl) (exitP_len ..)) fun v36 w a hp37 ha => ?_)
    obtain ⟨rfl, hS⟩ := hp37
    refine p_run [(3, 17, iv (1 + (((exitP (toP l0) f arg fuel).1).length : Int)))] ha fun a ha => ?_
    refine p_end ?_
    replace ha := ha.as [(8, .bool false), (16, iv (1 + (((exitP (toP l0) f arg fuel).1).length : Int))), (17, iv (1 + (((exitP (toP l0) f arg fuel).1).length : Int)))] rfl
    refine then_n ?_
    refine wp_seq ?_
    refine wp_seq ?_
    refine p_beginL [0, 1] ?_
    refine p_run [(0, 106, iv (1 + (((exitP (toP l0) f arg fuel).1).length : Int)))] ha fun a ha => ?_
    refine p_val (v := .bool false) ha (by decide) ((v_pure (v := .bool (decide (1 + (((exitP (toP l0) f arg fuel).1).length : Int) < 0))) ha (iAt (op := (Op.binOp BinOp.lss 3 (Operand.tmp 106) (Operand.const (Value.int IntKind.i64 0)) 3)) (d := some 107) (ty := 4)) (by kernel_rfl) (fun _ => by kernel_rfl)).as (by rw [decide_eq_false (by omega)])) (fun a ha => ?_)
    refine p_end ?_
    refine then_n ?_
    refine c_false ha rfl rfl ?_
    refine wp_skip ?_
    refine then_n ?_
    refine wp_seq ?_
    refine wp_seq ?_
    refine p_beginL [0, 1, 2] ?_
    refine p_run [(0, 108, iv (1 + (((exitP (toP l0) f arg fuel).1).length : Int))), (1, 109, iv (1 + (((exitP (toP l0) f arg fuel).1).length : Int)))] ha fun a ha => ?_
    refine p_val (v := .bool false) ha (by decide) ((v_pure (v := .bool (!(decide (1 + (((exitP (toP l0) f arg fuel).1).length : Int) = 1 + (((exitP (toP l0) f arg fuel).1).length : Int))))) ha (iAt (op := (Op.binOp BinOp.neq 3 (Operand.tmp 108) (Operand.tmp 109) 3)) (d := some 110) (ty := 4)) (by kernel_rfl) (fun _ => by kernel_rfl)).as (by simp)) (fun a ha => ?_)
    refine p_end ?_
    refine then_n ?_
    refine c_false ha rfl rfl ?_
    refine wp_skip ?_
    refine then_n ?_
    refine wp_seq ?_
    refine p_beginL [0] ?_
    refine p_run [(0, 8, .bool true)] ha fun a ha => ?_
    refine p_end ?_
    refine then_n ?_
    refine wp_ret ?_
    refine end_res1 ha (by kernel_rfl) (resT (t := 8) ha rfl) ?_
    exact ⟨rfl, hS.below⟩
end Go.Proofs.Ytdbbafepjgnmeaa.G
end
